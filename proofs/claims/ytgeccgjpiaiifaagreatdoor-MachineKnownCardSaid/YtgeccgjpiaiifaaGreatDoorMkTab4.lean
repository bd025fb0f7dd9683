/-
  The functions of the program, compiled (printed by a program of ours; each is held against the program's own text below).
-/
import Derived.Test.YtgeccgjpiaiifaaGreatDoorMkTab1
namespace Go.Proofs.YtgeccgjpiaiifaaGreatDoor
namespace Ev
noncomputable section
def cf304 : CF := ⟨3, (.seq (.reg [⟨.l 4, .a (.box), [.l 1], none, 0, 0⟩, ⟨.l 6, .p (.mv), [.c (.int .i64 0)], none, 0, 0⟩])
 (.seq (.seq (.reg [⟨.t 11, .p (.mv), [.l 0], none, 0, 0⟩, ⟨.t 12, .call 166, [.t 11], none, 0, 0⟩, ⟨.l 13, .p (.un .not), [.t 12], none, 0, 0⟩])
 (.cond (.l 13) (.seq (.reg [⟨.l 6, .p (.mv), [.c (.int .i64 1)], none, 0, 0⟩])
 .ret)
 .skip))
 (.seq (.seq (.reg [⟨.t 14, .p (.mv), [.l 2], none, 0, 0⟩, ⟨.t 15, .p (.fa 0), [.l 4], none, 0, 0⟩, ⟨.t 16, .r (.load false 1), [.t 15], none, 0, 0⟩, ⟨.t 17, .p (.leng .sl), [.t 16], none, 0, 0⟩, ⟨.t 18, .p (.bin .lss), [.t 14, .t 17], none, 0, 0⟩, ⟨.t 19, .p (.mv), [.t 18], none, 0, 0⟩, ⟨.t 20, .p (.mv), [.l 2], (some (.t 19, false)), 0, 0⟩, ⟨.t 21, .p (.bin .lss), [.t 20, .c (.int .i64 1)], (some (.t 19, false)), 0, 0⟩, ⟨.t 22, .p (.pick), [.t 19, .c (.bool true), .t 21], none, 0, 0⟩, ⟨.t 23, .p (.mv), [.t 22], none, 0, 0⟩, ⟨.t 24, .p (.mv), [.l 2], (some (.t 23, false)), 0, 0⟩, ⟨.t 25, .p (.bin .gtr), [.t 24, .c (.int .i64 2147483647)], (some (.t 23, false)), 0, 0⟩, ⟨.l 26, .p (.pick), [.t 23, .c (.bool true), .t 25], none, 0, 0⟩])
 (.cond (.l 26) (.seq (.reg [⟨.l 6, .p (.mv), [.c (.int .i64 2)], none, 0, 0⟩])
 .ret)
 .skip))
 (.seq (.regD [⟨.t 28, .p (.fa 0), [.l 4], none, 0, 0⟩, ⟨.t 29, .r (.load false 1), [.t 28], none, 0, 0⟩, ⟨.t 31, .p (.fa 1), [.l 4], none, 0, 1⟩, ⟨.t 32, .r (.load false 1), [.t 31], none, 0, 1⟩, ⟨.t 34, .p (.fa 2), [.l 4], none, 0, 2⟩, ⟨.t 35, .r (.load false 1), [.t 34], none, 0, 2⟩, ⟨.l 7, .a (.alloc [.nils, .nils, .nils, .nils]), [], none, 0, 3⟩, ⟨.t 30, .call 212, [.t 29], none, 0, 1⟩, ⟨.t 33, .call 212, [.t 32], none, 1, 2⟩, ⟨.t 36, .p (.build [.nils, .nils, (.int .i64 0)] [(0, 1), (1, 1), (2, 1)]), [.t 30, .t 33, .t 35], none, 2, 2⟩, ⟨.t 37, .call 381, [.t 36], none, 2, 3⟩, ⟨.t 27, .p (.mv), [.t 37], none, 3, 3⟩, ⟨.t 38, .p (.ext 0), [.t 27], none, 3, 3⟩, ⟨.t 39, .p (.ext 1), [.t 27], none, 3, 4⟩, ⟨.no, .e (.store 4), [.l 7, .t 38], none, 3, 4⟩, ⟨.l 8, .p (.mv), [.t 39], none, 4, 4⟩])
 (.seq (.seq (.reg [⟨.t 40, .p (.mv), [.l 8], none, 0, 0⟩, ⟨.t 41, .p (.un .not), [.t 40], none, 0, 0⟩, ⟨.t 42, .p (.mv), [.t 41], none, 0, 0⟩, ⟨.t 43, .p (.mv), [.l 0], (some (.t 42, false)), 0, 0⟩, ⟨.t 44, .call 382, [.t 43, .l 7], (some (.t 42, false)), 0, 0⟩, ⟨.t 45, .p (.un .not), [.t 44], (some (.t 42, false)), 0, 0⟩, ⟨.l 46, .p (.pick), [.t 42, .c (.bool true), .t 45], none, 0, 0⟩])
 (.cond (.l 46) (.seq (.reg [⟨.l 6, .p (.mv), [.c (.int .i64 6)], none, 0, 0⟩])
 .ret)
 .skip))
 (.seq (.seq (.reg [⟨.l 47, .call 383, [.l 7], none, 0, 0⟩, ⟨.l 48, .p (.leng .sl), [.l 47], none, 0, 0⟩, ⟨.l 49, .p (.mv), [.c (.int .i64 0)], none, 0, 0⟩])
 (.block 0 (.loop (.seq (.reg [⟨.l 50, .p (.bin .lss), [.l 49, .l 48], none, 0, 0⟩])
 (.seq (.cond (.l 50) .skip
 (.exit 0))
 (.seq (.block 1 (.seq (.reg [⟨.t 51, .p (.ixsl 1), [.l 47, .l 49], none, 0, 0⟩, ⟨.t 52, .r (.load false 1), [.t 51], none, 0, 0⟩, ⟨.l 10, .p (.mv), [.t 52], none, 0, 0⟩])
 (.reg [⟨.t 53, .p (.mv), [.l 0], none, 0, 0⟩, ⟨.t 54, .p (.nilc), [.t 53], none, 0, 0⟩, ⟨.t 55, .p (.fa 7), [.t 54], none, 0, 0⟩, ⟨.t 56, .r (.load false 1), [.t 55], none, 0, 0⟩, ⟨.t 57, .p (.mv), [.l 10], none, 0, 0⟩, ⟨.t 58, .call 27, [.t 56, .t 57], none, 0, 0⟩])))
 (.reg [⟨.t 59, .p (.bin .add), [.l 49, .c (.int .i64 1)], none, 0, 0⟩, ⟨.l 49, .p (.mv), [.t 59], none, 0, 0⟩])))))))
 (.seq (.reg [⟨.t 60, .p (.mv), [.l 0], none, 0, 0⟩, ⟨.t 61, .call 384, [.t 60], none, 0, 0⟩])
 (.seq (.regD [⟨.t 62, .p (.mv), [.l 0], none, 0, 0⟩, ⟨.t 63, .p (.mv), [.l 0], none, 0, 1⟩, ⟨.t 64, .p (.mv), [.l 0], none, 0, 2⟩, ⟨.t 65, .r (.load true 4), [.l 7], none, 0, 0⟩, ⟨.t 66, .p (.fa 2), [.l 4], none, 0, 1⟩, ⟨.t 67, .r (.load false 1), [.t 66], none, 0, 1⟩, ⟨.t 68, .p (.mv), [.l 2], none, 0, 2⟩, ⟨.t 69, .p (.nilc), [.t 62], none, 0, 0⟩, ⟨.t 70, .p (.fa 0), [.t 69], none, 0, 0⟩, ⟨.no, .e (.store 4), [.t 70, .t 65], none, 0, 1⟩, ⟨.t 71, .p (.nilc), [.t 63], none, 1, 1⟩, ⟨.t 72, .p (.fa 4), [.t 71], none, 1, 1⟩, ⟨.no, .e (.store 1), [.t 72, .t 67], none, 1, 2⟩, ⟨.t 73, .p (.nilc), [.t 64], none, 2, 2⟩, ⟨.t 74, .p (.fa 5), [.t 73], none, 2, 2⟩, ⟨.no, .e (.store 1), [.t 74, .t 68], none, 2, 3⟩])
 (.seq (.reg [⟨.l 6, .p (.mv), [.c (.int .i64 0)], none, 0, 0⟩])
 .ret))))))))),
 [.tmp (.l 6)]⟩
theorem cf304_ok : compF TP Tryz.f304 = some cf304 := by kernel_rfl
def cf306 : CF := ⟨3, (.seq (.reg [⟨.t 7, .p (.mv), [.l 1], none, 0, 0⟩, ⟨.l 8, .call 307, [.t 7], none, 0, 0⟩, ⟨.l 9, .p (.leng .sl), [.l 8], none, 0, 0⟩, ⟨.l 10, .p (.mv), [.c (.int .i64 0)], none, 0, 0⟩])
 (.block 0 (.loop (.seq (.reg [⟨.l 11, .p (.bin .lss), [.l 10, .l 9], none, 0, 0⟩])
 (.seq (.cond (.l 11) .skip
 (.exit 0))
 (.seq (.block 1 (.seq (.reg [⟨.t 12, .p (.ixsl 1), [.l 8, .l 10], none, 0, 0⟩, ⟨.t 13, .r (.load false 1), [.t 12], none, 0, 0⟩, ⟨.l 6, .p (.mv), [.t 13], none, 0, 0⟩])
 (.reg [⟨.t 14, .r (.load false 1), [.l 2], none, 0, 0⟩, ⟨.t 15, .p (.mv), [.l 6], none, 0, 0⟩, ⟨.t 16, .p (.mv), [.l 0], none, 0, 0⟩, ⟨.no, .e (.mapup (.one .s)), [.t 14, .t 15, .t 16], none, 0, 0⟩])))
 (.reg [⟨.t 17, .p (.bin .add), [.l 10, .c (.int .i64 1)], none, 0, 0⟩, ⟨.l 10, .p (.mv), [.t 17], none, 0, 0⟩]))))))),
 []⟩
theorem cf306_ok : compF TP Tryz.f306 = some cf306 := by kernel_rfl
def cf307 : CF := ⟨1, (.seq (.reg [⟨.l 2, .p (.mv), [.c .nils], none, 0, 0⟩])
 (.seq (.reg [⟨.l 3, .p (.mv), [.c (.int .i64 0)], none, 0, 0⟩])
 (.seq (.reg [⟨.l 4, .p (.mv), [.c (.int .i64 1)], none, 0, 0⟩])
 (.seq (.reg [⟨.l 5, .p (.mv), [.c (.int .u8 0)], none, 0, 0⟩])
 (.seq (.seq (.reg [⟨.l 6, .p (.mv), [.c (.int .i64 0)], none, 0, 0⟩])
 (.block 0 (.loop (.seq (.seq (.reg [⟨.t 13, .p (.mv), [.l 6], none, 0, 0⟩, ⟨.t 14, .p (.mv), [.l 0], none, 0, 0⟩, ⟨.t 15, .p (.leng .str), [.t 14], none, 0, 0⟩, ⟨.l 16, .p (.bin .lss), [.t 13, .t 15], none, 0, 0⟩])
 (.cond (.l 16) .skip
 (.exit 0)))
 (.seq (.block 1 (.seq (.reg [⟨.t 19, .p (.mv), [.l 0], none, 0, 0⟩, ⟨.t 20, .p (.mv), [.l 6], none, 0, 0⟩, ⟨.t 21, .p (.ixstr), [.t 19, .t 20], none, 0, 0⟩, ⟨.l 7, .p (.mv), [.t 21], none, 0, 0⟩])
 (.seq (.reg [⟨.t 22, .p (.mv), [.l 5], none, 0, 0⟩, ⟨.t 23, .p (.mv), [.l 7], none, 0, 0⟩, ⟨.t 24, .p (.bin .or), [.t 22, .t 23], none, 0, 0⟩, ⟨.l 5, .p (.mv), [.t 24], none, 0, 0⟩])
 (.seq (.reg [⟨.t 25, .p (.mv), [.l 7], none, 0, 0⟩, ⟨.t 26, .p (.ixarrp 256 1), [.c (.ptr 1 0), .t 25], none, 0, 0⟩, ⟨.t 27, .r (.load false 1), [.t 26], none, 0, 0⟩, ⟨.t 28, .p (.toInt .i64), [.t 27], none, 0, 0⟩, ⟨.l 8, .p (.mv), [.t 28], none, 0, 0⟩])
 (.seq (.reg [⟨.t 29, .p (.mv), [.l 3], none, 0, 0⟩, ⟨.t 30, .p (.mv), [.l 4], none, 0, 0⟩, ⟨.t 31, .p (.mv), [.l 8], none, 0, 0⟩, ⟨.t 32, .p (.un .xor), [.t 31], none, 0, 0⟩, ⟨.t 33, .p (.bin .and), [.t 30, .t 32], none, 0, 0⟩, ⟨.t 34, .p (.bin .add), [.t 29, .t 33], none, 0, 0⟩, ⟨.l 3, .p (.mv), [.t 34], none, 0, 0⟩])
 (.reg [⟨.t 35, .p (.mv), [.l 8], none, 0, 0⟩, ⟨.l 4, .p (.mv), [.t 35], none, 0, 0⟩]))))))
 (.reg [⟨.t 17, .p (.mv), [.l 6], none, 0, 0⟩, ⟨.t 18, .p (.bin .add), [.t 17, .c (.int .i64 1)], none, 0, 0⟩, ⟨.l 6, .p (.mv), [.t 18], none, 0, 0⟩]))))))
 (.seq (.seq (.reg [⟨.t 36, .p (.mv), [.l 5], none, 0, 0⟩, ⟨.l 37, .p (.bin .geq), [.t 36, .c (.int .u8 128)], none, 0, 0⟩])
 (.cond (.l 37) (.seq (.reg [⟨.t 38, .p (.mv), [.l 0], none, 0, 0⟩, ⟨.t 39, .call 386, [.t 38, .c (.func (.func 387) [] [])], none, 0, 0⟩, ⟨.l 2, .p (.mv), [.t 39], none, 0, 0⟩])
 .ret)
 .skip))
 (.seq (.reg [⟨.t 40, .p (.mv), [.l 3], none, 0, 0⟩, ⟨.t 41, .a (.mks [(.str 0 0)] 16), [.t 40, .t 40], none, 0, 0⟩, ⟨.l 9, .p (.mv), [.t 41], none, 0, 0⟩])
 (.seq (.reg [⟨.l 10, .p (.mv), [.c (.int .i64 0)], none, 0, 0⟩])
 (.seq (.reg [⟨.l 11, .p (.mv), [.c (.int .i64 0)], none, 0, 0⟩])
 (.seq (.reg [⟨.l 12, .p (.mv), [.c (.int .i64 0)], none, 0, 0⟩])
 (.seq (.block 2 (.loop (.seq (.seq (.reg [⟨.t 42, .p (.mv), [.l 12], none, 0, 0⟩, ⟨.t 43, .p (.mv), [.l 0], none, 0, 0⟩, ⟨.t 44, .p (.leng .str), [.t 43], none, 0, 0⟩, ⟨.t 45, .p (.bin .lss), [.t 42, .t 44], none, 0, 0⟩, ⟨.t 46, .p (.mv), [.t 45], none, 0, 0⟩, ⟨.t 47, .p (.mv), [.l 0], (some (.t 46, true)), 0, 0⟩, ⟨.t 48, .p (.mv), [.l 12], (some (.t 46, true)), 0, 0⟩, ⟨.t 49, .p (.ixstr), [.t 47, .t 48], (some (.t 46, true)), 0, 0⟩, ⟨.t 50, .p (.ixarrp 256 1), [.c (.ptr 1 0), .t 49], (some (.t 46, true)), 0, 0⟩, ⟨.t 51, .r (.load false 1), [.t 50], (some (.t 46, true)), 0, 0⟩, ⟨.t 52, .p (.bin .neq), [.t 51, .c (.int .u8 0)], (some (.t 46, true)), 0, 0⟩, ⟨.l 53, .p (.pick), [.t 46, .t 52, .c (.bool false)], none, 0, 0⟩])
 (.cond (.l 53) .skip
 (.exit 2)))
 (.block 3 (.reg [⟨.t 54, .p (.mv), [.l 12], none, 0, 0⟩, ⟨.t 55, .p (.bin .add), [.t 54, .c (.int .i64 1)], none, 0, 0⟩, ⟨.l 12, .p (.mv), [.t 55], none, 0, 0⟩])))))
 (.seq (.reg [⟨.t 56, .p (.mv), [.l 12], none, 0, 0⟩, ⟨.l 11, .p (.mv), [.t 56], none, 0, 0⟩])
 (.seq (.block 4 (.loop (.seq (.seq (.reg [⟨.t 57, .p (.mv), [.l 12], none, 0, 0⟩, ⟨.t 58, .p (.mv), [.l 0], none, 0, 0⟩, ⟨.t 59, .p (.leng .str), [.t 58], none, 0, 0⟩, ⟨.l 60, .p (.bin .lss), [.t 57, .t 59], none, 0, 0⟩])
 (.cond (.l 60) .skip
 (.exit 4)))
 (.block 5 (.seq (.seq (.reg [⟨.t 61, .p (.mv), [.l 0], none, 0, 0⟩, ⟨.t 62, .p (.mv), [.l 12], none, 0, 0⟩, ⟨.t 63, .p (.ixstr), [.t 61, .t 62], none, 0, 0⟩, ⟨.t 64, .p (.ixarrp 256 1), [.c (.ptr 1 0), .t 63], none, 0, 0⟩, ⟨.t 65, .r (.load false 1), [.t 64], none, 0, 0⟩, ⟨.l 66, .p (.bin .eql), [.t 65, .c (.int .u8 0)], none, 0, 0⟩])
 (.cond (.l 66) (.seq (.reg [⟨.t 67, .p (.mv), [.l 12], none, 0, 0⟩, ⟨.t 68, .p (.bin .add), [.t 67, .c (.int .i64 1)], none, 0, 0⟩, ⟨.l 12, .p (.mv), [.t 68], none, 0, 0⟩])
 (.exit 5))
 .skip))
 (.seq (.reg [⟨.t 69, .p (.mv), [.l 9], none, 0, 0⟩, ⟨.t 70, .p (.mv), [.l 10], none, 0, 0⟩, ⟨.t 71, .p (.mv), [.l 0], none, 0, 0⟩, ⟨.t 72, .p (.mv), [.l 11], none, 0, 0⟩, ⟨.t 73, .p (.mv), [.l 12], none, 0, 0⟩, ⟨.t 74, .p (.slc .str true true false), [.t 71, .t 72, .t 73], none, 0, 0⟩, ⟨.t 75, .p (.ixsl 1), [.t 69, .t 70], none, 0, 0⟩, ⟨.no, .e (.store 1), [.t 75, .t 74], none, 0, 0⟩])
 (.seq (.reg [⟨.t 76, .p (.mv), [.l 10], none, 0, 0⟩, ⟨.t 77, .p (.bin .add), [.t 76, .c (.int .i64 1)], none, 0, 0⟩, ⟨.l 10, .p (.mv), [.t 77], none, 0, 0⟩])
 (.seq (.reg [⟨.t 78, .p (.mv), [.l 12], none, 0, 0⟩, ⟨.t 79, .p (.bin .add), [.t 78, .c (.int .i64 1)], none, 0, 0⟩, ⟨.l 12, .p (.mv), [.t 79], none, 0, 0⟩])
 (.seq (.block 6 (.loop (.seq (.seq (.reg [⟨.t 80, .p (.mv), [.l 12], none, 0, 0⟩, ⟨.t 81, .p (.mv), [.l 0], none, 0, 0⟩, ⟨.t 82, .p (.leng .str), [.t 81], none, 0, 0⟩, ⟨.t 83, .p (.bin .lss), [.t 80, .t 82], none, 0, 0⟩, ⟨.t 84, .p (.mv), [.t 83], none, 0, 0⟩, ⟨.t 85, .p (.mv), [.l 0], (some (.t 84, true)), 0, 0⟩, ⟨.t 86, .p (.mv), [.l 12], (some (.t 84, true)), 0, 0⟩, ⟨.t 87, .p (.ixstr), [.t 85, .t 86], (some (.t 84, true)), 0, 0⟩, ⟨.t 88, .p (.ixarrp 256 1), [.c (.ptr 1 0), .t 87], (some (.t 84, true)), 0, 0⟩, ⟨.t 89, .r (.load false 1), [.t 88], (some (.t 84, true)), 0, 0⟩, ⟨.t 90, .p (.bin .neq), [.t 89, .c (.int .u8 0)], (some (.t 84, true)), 0, 0⟩, ⟨.l 91, .p (.pick), [.t 84, .t 90, .c (.bool false)], none, 0, 0⟩])
 (.cond (.l 91) .skip
 (.exit 6)))
 (.block 7 (.reg [⟨.t 92, .p (.mv), [.l 12], none, 0, 0⟩, ⟨.t 93, .p (.bin .add), [.t 92, .c (.int .i64 1)], none, 0, 0⟩, ⟨.l 12, .p (.mv), [.t 93], none, 0, 0⟩])))))
 (.reg [⟨.t 94, .p (.mv), [.l 12], none, 0, 0⟩, ⟨.l 11, .p (.mv), [.t 94], none, 0, 0⟩]))))))))))
 (.seq (.seq (.reg [⟨.t 95, .p (.mv), [.l 11], none, 0, 0⟩, ⟨.t 96, .p (.mv), [.l 0], none, 0, 0⟩, ⟨.t 97, .p (.leng .str), [.t 96], none, 0, 0⟩, ⟨.l 98, .p (.bin .lss), [.t 95, .t 97], none, 0, 0⟩])
 (.cond (.l 98) (.reg [⟨.t 99, .p (.mv), [.l 9], none, 0, 0⟩, ⟨.t 100, .p (.mv), [.l 10], none, 0, 0⟩, ⟨.t 101, .p (.mv), [.l 0], none, 0, 0⟩, ⟨.t 102, .p (.mv), [.l 11], none, 0, 0⟩, ⟨.t 103, .p (.slc .str true false false), [.t 101, .t 102], none, 0, 0⟩, ⟨.t 104, .p (.ixsl 1), [.t 99, .t 100], none, 0, 0⟩, ⟨.no, .e (.store 1), [.t 104, .t 103], none, 0, 0⟩])
 .skip))
 (.seq (.reg [⟨.t 105, .p (.mv), [.l 9], none, 0, 0⟩, ⟨.l 2, .p (.mv), [.t 105], none, 0, 0⟩])
 .ret))))))))))))))),
 [.tmp (.l 2)]⟩
theorem cf307_ok : compF TP Tryz.f307 = some cf307 := by kernel_rfl
def cf308 : CF := ⟨1, (.seq (.reg [⟨.l 2, .p (.mv), [.c (.int .u64 0)], none, 0, 0⟩])
 (.seq (.seq (.reg [⟨.t 3, .p (.mv), [.l 0], none, 0, 0⟩, ⟨.l 4, .p (.bin .lss), [.t 3, .c (.int .i64 0)], none, 0, 0⟩])
 (.cond (.l 4) (.seq (.reg [⟨.t 5, .p (.mv), [.l 0], none, 0, 0⟩, ⟨.t 6, .p (.toInt .u64), [.t 5], none, 0, 0⟩, ⟨.t 7, .p (.un .neg), [.t 6], none, 0, 0⟩, ⟨.l 2, .p (.mv), [.t 7], none, 0, 0⟩])
 .ret)
 .skip))
 (.seq (.reg [⟨.t 8, .p (.mv), [.l 0], none, 0, 0⟩, ⟨.t 9, .p (.toInt .u64), [.t 8], none, 0, 0⟩, ⟨.l 2, .p (.mv), [.t 9], none, 0, 0⟩])
 .ret))),
 [.tmp (.l 2)]⟩
theorem cf308_ok : compF TP Tryz.f308 = some cf308 := by kernel_rfl
def cf309 : CF := ⟨3, (.seq (.reg [⟨.l 4, .p (.mv), [.c (.bool true)], none, 0, 0⟩, ⟨.l 5, .p (.mv), [.c (.bool false)], none, 0, 0⟩])
 (.seq (.seq (.reg [⟨.t 8, .r (.load false 1), [.l 1], none, 0, 0⟩, ⟨.t 9, .p (.nilc), [.t 8], none, 0, 0⟩, ⟨.t 10, .p (.fa 0), [.t 9], none, 0, 0⟩, ⟨.l 11, .r (.load false 1), [.t 10], none, 0, 0⟩])
 (.block 0 (.seq (.seq (.reg [⟨.t 13, .p (.bin .eql), [.l 11, .c (.int .i64 17)], none, 0, 0⟩, ⟨.l 12, .p (.mv), [.t 13], none, 0, 0⟩])
 (.cond (.l 12) .skip
 (.seq (.reg [⟨.t 14, .p (.bin .eql), [.l 11, .c (.int .i64 19)], none, 0, 0⟩, ⟨.l 12, .p (.mv), [.t 14], none, 0, 0⟩])
 (.cond (.l 12) .skip
 (.seq (.reg [⟨.t 15, .p (.bin .eql), [.l 11, .c (.int .i64 21)], none, 0, 0⟩, ⟨.l 12, .p (.mv), [.t 15], none, 0, 0⟩])
 (.cond (.l 12) .skip
 (.seq (.reg [⟨.t 16, .p (.bin .eql), [.l 11, .c (.int .i64 23)], none, 0, 0⟩, ⟨.l 12, .p (.mv), [.t 16], none, 0, 0⟩])
 (.cond (.l 12) .skip
 (.seq (.reg [⟨.t 17, .p (.bin .eql), [.l 11, .c (.int .i64 26)], none, 0, 0⟩, ⟨.l 12, .p (.mv), [.t 17], none, 0, 0⟩])
 (.cond (.l 12) .skip
 (.reg [⟨.t 18, .p (.bin .eql), [.l 11, .c (.int .i64 27)], none, 0, 0⟩, ⟨.l 12, .p (.mv), [.t 18], none, 0, 0⟩])))))))))))
 (.cond (.l 12) (.reg [⟨.l 4, .p (.mv), [.c (.bool false)], none, 0, 0⟩])
 (.seq (.seq (.reg [⟨.t 20, .p (.bin .eql), [.l 11, .c (.int .i64 8)], none, 0, 0⟩, ⟨.l 19, .p (.mv), [.t 20], none, 0, 0⟩])
 (.cond (.l 19) .skip
 (.seq (.reg [⟨.t 21, .p (.bin .eql), [.l 11, .c (.int .i64 39)], none, 0, 0⟩, ⟨.l 19, .p (.mv), [.t 21], none, 0, 0⟩])
 (.cond (.l 19) .skip
 (.reg [⟨.t 22, .p (.bin .eql), [.l 11, .c (.int .i64 12)], none, 0, 0⟩, ⟨.l 19, .p (.mv), [.t 22], none, 0, 0⟩])))))
 (.cond (.l 19) (.reg [⟨.l 4, .p (.mv), [.c (.bool false)], none, 0, 0⟩, ⟨.l 5, .p (.mv), [.c (.bool true)], none, 0, 0⟩])
 (.seq (.seq (.reg [⟨.t 24, .p (.bin .eql), [.l 11, .c (.int .i64 9)], none, 0, 0⟩, ⟨.l 23, .p (.mv), [.t 24], none, 0, 0⟩])
 (.cond (.l 23) .skip
 (.seq (.reg [⟨.t 25, .p (.bin .eql), [.l 11, .c (.int .i64 10)], none, 0, 0⟩, ⟨.l 23, .p (.mv), [.t 25], none, 0, 0⟩])
 (.cond (.l 23) .skip
 (.seq (.reg [⟨.t 26, .p (.bin .eql), [.l 11, .c (.int .i64 11)], none, 0, 0⟩, ⟨.l 23, .p (.mv), [.t 26], none, 0, 0⟩])
 (.cond (.l 23) .skip
 (.seq (.reg [⟨.t 27, .p (.bin .eql), [.l 11, .c (.int .i64 13)], none, 0, 0⟩, ⟨.l 23, .p (.mv), [.t 27], none, 0, 0⟩])
 (.cond (.l 23) .skip
 (.seq (.reg [⟨.t 28, .p (.bin .eql), [.l 11, .c (.int .i64 30)], none, 0, 0⟩, ⟨.l 23, .p (.mv), [.t 28], none, 0, 0⟩])
 (.cond (.l 23) .skip
 (.seq (.reg [⟨.t 29, .p (.bin .eql), [.l 11, .c (.int .i64 31)], none, 0, 0⟩, ⟨.l 23, .p (.mv), [.t 29], none, 0, 0⟩])
 (.cond (.l 23) .skip
 (.seq (.reg [⟨.t 30, .p (.bin .eql), [.l 11, .c (.int .i64 32)], none, 0, 0⟩, ⟨.l 23, .p (.mv), [.t 30], none, 0, 0⟩])
 (.cond (.l 23) .skip
 (.seq (.reg [⟨.t 31, .p (.bin .eql), [.l 11, .c (.int .i64 33)], none, 0, 0⟩, ⟨.l 23, .p (.mv), [.t 31], none, 0, 0⟩])
 (.cond (.l 23) .skip
 (.seq (.reg [⟨.t 32, .p (.bin .eql), [.l 11, .c (.int .i64 34)], none, 0, 0⟩, ⟨.l 23, .p (.mv), [.t 32], none, 0, 0⟩])
 (.cond (.l 23) .skip
 (.seq (.reg [⟨.t 33, .p (.bin .eql), [.l 11, .c (.int .i64 37)], none, 0, 0⟩, ⟨.l 23, .p (.mv), [.t 33], none, 0, 0⟩])
 (.cond (.l 23) .skip
 (.reg [⟨.t 34, .p (.bin .eql), [.l 11, .c (.int .i64 40)], none, 0, 0⟩, ⟨.l 23, .p (.mv), [.t 34], none, 0, 0⟩])))))))))))))))))))))
 (.cond (.l 23) (.reg [⟨.l 5, .p (.mv), [.c (.bool true)], none, 0, 0⟩])
 .skip))))))))
 (.seq (.seq (.reg [⟨.t 35, .p (.mv), [.l 4], none, 0, 0⟩, ⟨.t 36, .p (.mv), [.t 35], none, 0, 0⟩, ⟨.t 37, .p (.mv), [.l 0], (some (.t 36, true)), 0, 0⟩, ⟨.t 38, .r (.load false 1), [.l 2], (some (.t 36, true)), 0, 0⟩, ⟨.t 39, .p (.bin .add), [.t 38, .c (.int .i64 1)], (some (.t 36, true)), 0, 0⟩, ⟨.t 40, .callv, [.t 37, .t 39], (some (.t 36, true)), 0, 0⟩, ⟨.t 41, .p (.un .not), [.t 40], (some (.t 36, true)), 0, 0⟩, ⟨.t 42, .p (.pick), [.t 36, .t 41, .c (.bool false)], none, 0, 0⟩, ⟨.t 43, .p (.mv), [.t 42], none, 0, 0⟩, ⟨.t 44, .p (.mv), [.l 5], (some (.t 43, false)), 0, 0⟩, ⟨.t 45, .p (.mv), [.t 44], (some (.t 43, false)), 0, 0⟩, ⟨.t 46, .p (.mv), [.l 0], (some (.t 45, true)), 0, 0⟩, ⟨.t 47, .r (.load false 1), [.l 1], (some (.t 45, true)), 0, 0⟩, ⟨.t 48, .p (.nilc), [.t 47], (some (.t 45, true)), 0, 0⟩, ⟨.t 49, .p (.fa 4), [.t 48], (some (.t 45, true)), 0, 0⟩, ⟨.t 50, .r (.load false 1), [.t 49], (some (.t 45, true)), 0, 0⟩, ⟨.t 51, .callv, [.t 46, .t 50], (some (.t 45, true)), 0, 0⟩, ⟨.t 52, .p (.un .not), [.t 51], (some (.t 45, true)), 0, 0⟩, ⟨.t 53, .p (.pick), [.t 45, .t 52, .c (.bool false)], (some (.t 43, false)), 0, 0⟩, ⟨.t 54, .p (.pick), [.t 43, .c (.bool true), .t 53], none, 0, 0⟩, ⟨.t 55, .p (.mv), [.t 54], none, 0, 0⟩, ⟨.t 56, .r (.load false 1), [.l 1], (some (.t 55, false)), 0, 0⟩, ⟨.t 57, .p (.nilc), [.t 56], (some (.t 55, false)), 0, 0⟩, ⟨.t 58, .p (.fa 0), [.t 57], (some (.t 55, false)), 0, 0⟩, ⟨.t 59, .r (.load false 1), [.t 58], (some (.t 55, false)), 0, 0⟩, ⟨.t 60, .p (.bin .neq), [.t 59, .c (.int .i64 12)], (some (.t 55, false)), 0, 0⟩, ⟨.l 61, .p (.pick), [.t 55, .c (.bool true), .t 60], none, 0, 0⟩])
 (.cond (.l 61) .ret
 .skip))
 (.seq (.reg [⟨.t 62, .r (.load false 1), [.l 1], none, 0, 0⟩, ⟨.t 63, .p (.nilc), [.t 62], none, 0, 0⟩, ⟨.t 64, .p (.fa 8), [.t 63], none, 0, 0⟩, ⟨.l 65, .r (.load false 1), [.t 64], none, 0, 0⟩, ⟨.l 66, .p (.leng .sl), [.l 65], none, 0, 0⟩, ⟨.l 67, .p (.mv), [.c (.int .i64 0)], none, 0, 0⟩])
 (.block 1 (.loop (.seq (.reg [⟨.l 68, .p (.bin .lss), [.l 67, .l 66], none, 0, 0⟩])
 (.seq (.cond (.l 68) .skip
 (.exit 1))
 (.seq (.block 2 (.seq (.reg [⟨.t 69, .p (.ixsl 2), [.l 65, .l 67], none, 0, 0⟩, ⟨.t 70, .r (.load true 2), [.t 69], none, 0, 0⟩, ⟨.l 7, .a (.alloc [(.int .i64 0), (.int .i64 0)]), [], none, 0, 0⟩, ⟨.no, .e (.store 2), [.l 7, .t 70], none, 0, 0⟩])
 (.seq (.reg [⟨.t 71, .p (.mv), [.l 0], none, 0, 0⟩, ⟨.t 72, .p (.fa 1), [.l 7], none, 0, 0⟩, ⟨.t 73, .r (.load false 1), [.t 72], none, 0, 0⟩, ⟨.t 74, .callv, [.t 71, .t 73], none, 0, 0⟩, ⟨.l 75, .p (.un .not), [.t 74], none, 0, 0⟩])
 (.cond (.l 75) .ret
 .skip))))
 (.reg [⟨.t 76, .p (.bin .add), [.l 67, .c (.int .i64 1)], none, 0, 0⟩, ⟨.l 67, .p (.mv), [.t 76], none, 0, 0⟩])))))))))),
 []⟩
theorem cf309_ok : compF TP Tryz.f309 = some cf309 := by kernel_rfl
def cf310 : CF := ⟨4, (.seq (.reg [⟨.l 8, .p (.mv), [.c (.bool true)], none, 0, 0⟩])
 (.seq (.reg [⟨.l 9, .p (.mv), [.c (.bool true)], none, 0, 0⟩])
 (.block 0 (.loop (.block 1 (.seq (.reg [⟨.t 19, .p (.mv), [.l 2], none, 0, 0⟩, ⟨.t 20, .p (.mv), [.l 1], none, 0, 0⟩, ⟨.t 21, .p (.bin .sub), [.t 19, .t 20], none, 0, 0⟩, ⟨.l 10, .p (.mv), [.t 21], none, 0, 0⟩])
 (.seq (.seq (.reg [⟨.t 22, .p (.mv), [.l 10], none, 0, 0⟩, ⟨.l 23, .p (.bin .leq), [.t 22, .c (.int .i64 12)], none, 0, 0⟩])
 (.cond (.l 23) (.seq (.reg [⟨.t 24, .p (.mv), [.l 0], none, 0, 0⟩, ⟨.t 25, .p (.mv), [.l 1], none, 0, 0⟩, ⟨.t 26, .p (.mv), [.l 2], none, 0, 0⟩, ⟨.t 27, .call 388, [.t 24, .t 25, .t 26], none, 0, 0⟩])
 .ret)
 .skip))
 (.seq (.seq (.reg [⟨.t 28, .p (.mv), [.l 3], none, 0, 0⟩, ⟨.l 29, .p (.bin .eql), [.t 28, .c (.int .i64 0)], none, 0, 0⟩])
 (.cond (.l 29) (.seq (.reg [⟨.t 30, .p (.mv), [.l 0], none, 0, 0⟩, ⟨.t 31, .p (.mv), [.l 1], none, 0, 0⟩, ⟨.t 32, .p (.mv), [.l 2], none, 0, 0⟩, ⟨.t 33, .call 389, [.t 30, .t 31, .t 32], none, 0, 0⟩])
 .ret)
 .skip))
 (.seq (.seq (.reg [⟨.t 34, .p (.mv), [.l 8], none, 0, 0⟩, ⟨.l 35, .p (.un .not), [.t 34], none, 0, 0⟩])
 (.cond (.l 35) (.seq (.reg [⟨.t 36, .p (.mv), [.l 0], none, 0, 0⟩, ⟨.t 37, .p (.mv), [.l 1], none, 0, 0⟩, ⟨.t 38, .p (.mv), [.l 2], none, 0, 0⟩, ⟨.t 39, .call 390, [.t 36, .t 37, .t 38], none, 0, 0⟩])
 (.reg [⟨.t 40, .p (.mv), [.l 3], none, 0, 0⟩, ⟨.t 41, .p (.bin .sub), [.t 40, .c (.int .i64 1)], none, 0, 0⟩, ⟨.l 3, .p (.mv), [.t 41], none, 0, 0⟩]))
 .skip))
 (.seq (.reg [⟨.t 43, .p (.mv), [.l 0], none, 0, 0⟩, ⟨.t 44, .p (.mv), [.l 1], none, 0, 0⟩, ⟨.t 45, .p (.mv), [.l 2], none, 0, 0⟩, ⟨.t 46, .call 391, [.t 43, .t 44, .t 45], none, 0, 0⟩, ⟨.t 42, .p (.mv), [.t 46], none, 0, 0⟩, ⟨.t 47, .p (.ext 0), [.t 42], none, 0, 0⟩, ⟨.t 48, .p (.ext 1), [.t 42], none, 0, 0⟩, ⟨.l 11, .p (.mv), [.t 47], none, 0, 0⟩, ⟨.l 12, .p (.mv), [.t 48], none, 0, 0⟩])
 (.seq (.seq (.reg [⟨.t 49, .p (.mv), [.l 12], none, 0, 0⟩, ⟨.l 50, .p (.bin .eql), [.t 49, .c (.int .i64 2)], none, 0, 0⟩])
 (.cond (.l 50) (.seq (.reg [⟨.t 51, .p (.mv), [.l 0], none, 0, 0⟩, ⟨.t 52, .p (.mv), [.l 1], none, 0, 0⟩, ⟨.t 53, .p (.mv), [.l 2], none, 0, 0⟩, ⟨.t 54, .call 392, [.t 51, .t 52, .t 53], none, 0, 0⟩])
 (.seq (.reg [⟨.t 55, .p (.mv), [.l 2], none, 0, 0⟩, ⟨.t 56, .p (.bin .sub), [.t 55, .c (.int .i64 1)], none, 0, 0⟩, ⟨.t 57, .p (.mv), [.l 11], none, 0, 0⟩, ⟨.t 58, .p (.mv), [.l 1], none, 0, 0⟩, ⟨.t 59, .p (.bin .sub), [.t 57, .t 58], none, 0, 0⟩, ⟨.t 60, .p (.bin .sub), [.t 56, .t 59], none, 0, 0⟩, ⟨.l 11, .p (.mv), [.t 60], none, 0, 0⟩])
 (.reg [⟨.l 12, .p (.mv), [.c (.int .i64 1)], none, 0, 0⟩])))
 .skip))
 (.seq (.seq (.reg [⟨.t 61, .p (.mv), [.l 8], none, 0, 0⟩, ⟨.t 62, .p (.mv), [.t 61], none, 0, 0⟩, ⟨.t 63, .p (.mv), [.l 9], (some (.t 62, true)), 0, 0⟩, ⟨.t 64, .p (.pick), [.t 62, .t 63, .c (.bool false)], none, 0, 0⟩, ⟨.t 65, .p (.mv), [.t 64], none, 0, 0⟩, ⟨.t 66, .p (.mv), [.l 12], (some (.t 65, true)), 0, 0⟩, ⟨.t 67, .p (.bin .eql), [.t 66, .c (.int .i64 1)], (some (.t 65, true)), 0, 0⟩, ⟨.l 68, .p (.pick), [.t 65, .t 67, .c (.bool false)], none, 0, 0⟩])
 (.cond (.l 68) (.seq (.reg [⟨.t 69, .p (.mv), [.l 0], none, 0, 0⟩, ⟨.t 70, .p (.mv), [.l 1], none, 0, 0⟩, ⟨.t 71, .p (.mv), [.l 2], none, 0, 0⟩, ⟨.l 72, .call 393, [.t 69, .t 70, .t 71], none, 0, 0⟩])
 (.cond (.l 72) .ret
 .skip))
 .skip))
 (.seq (.seq (.regD [⟨.t 73, .p (.mv), [.l 1], none, 0, 0⟩, ⟨.t 74, .p (.bin .gtr), [.t 73, .c (.int .i64 0)], none, 0, 0⟩, ⟨.t 75, .p (.mv), [.t 74], none, 0, 0⟩, ⟨.t 76, .p (.mv), [.l 0], (some (.t 75, true)), 0, 0⟩, ⟨.t 77, .p (.mv), [.l 1], (some (.t 75, true)), 0, 0⟩, ⟨.t 78, .p (.bin .sub), [.t 77, .c (.int .i64 1)], (some (.t 75, true)), 0, 0⟩, ⟨.t 79, .p (.ixsl 1), [.t 76, .t 78], (some (.t 75, true)), 0, 0⟩, ⟨.t 80, .r (.load false 1), [.t 79], (some (.t 75, true)), 0, 0⟩, ⟨.t 81, .p (.mv), [.l 0], (some (.t 75, true)), 0, 0⟩, ⟨.t 82, .p (.mv), [.l 11], (some (.t 75, true)), 0, 0⟩, ⟨.t 83, .p (.ixsl 1), [.t 81, .t 82], (some (.t 75, true)), 0, 0⟩, ⟨.t 84, .r (.load false 1), [.t 83], (some (.t 75, true)), 0, 0⟩, ⟨.t 85, .call 394, [.t 80, .t 84], (some (.t 75, true)), 0, 1⟩, ⟨.t 86, .p (.un .not), [.t 85], (some (.t 75, true)), 1, 1⟩, ⟨.l 87, .p (.pick), [.t 75, .t 86, .c (.bool false)], none, 1, 1⟩])
 (.cond (.l 87) (.seq (.reg [⟨.t 88, .p (.mv), [.l 0], none, 0, 0⟩, ⟨.t 89, .p (.mv), [.l 1], none, 0, 0⟩, ⟨.t 90, .p (.mv), [.l 2], none, 0, 0⟩, ⟨.t 91, .p (.mv), [.l 11], none, 0, 0⟩, ⟨.t 92, .call 395, [.t 88, .t 89, .t 90, .t 91], none, 0, 0⟩, ⟨.l 13, .p (.mv), [.t 92], none, 0, 0⟩])
 (.seq (.reg [⟨.t 93, .p (.mv), [.l 13], none, 0, 0⟩, ⟨.l 1, .p (.mv), [.t 93], none, 0, 0⟩])
 (.exit 1)))
 .skip))
 (.seq (.reg [⟨.t 95, .p (.mv), [.l 0], none, 0, 0⟩, ⟨.t 96, .p (.mv), [.l 1], none, 0, 0⟩, ⟨.t 97, .p (.mv), [.l 2], none, 0, 0⟩, ⟨.t 98, .p (.mv), [.l 11], none, 0, 0⟩, ⟨.t 99, .call 396, [.t 95, .t 96, .t 97, .t 98], none, 0, 0⟩, ⟨.t 94, .p (.mv), [.t 99], none, 0, 0⟩, ⟨.t 100, .p (.ext 0), [.t 94], none, 0, 0⟩, ⟨.t 101, .p (.ext 1), [.t 94], none, 0, 0⟩, ⟨.l 14, .p (.mv), [.t 100], none, 0, 0⟩, ⟨.l 15, .p (.mv), [.t 101], none, 0, 0⟩])
 (.seq (.reg [⟨.t 102, .p (.mv), [.l 15], none, 0, 0⟩, ⟨.l 9, .p (.mv), [.t 102], none, 0, 0⟩])
 (.seq (.reg [⟨.t 103, .p (.mv), [.l 14], none, 0, 0⟩, ⟨.t 104, .p (.mv), [.l 1], none, 0, 0⟩, ⟨.t 105, .p (.bin .sub), [.t 103, .t 104], none, 0, 0⟩, ⟨.t 106, .p (.mv), [.l 2], none, 0, 0⟩, ⟨.t 107, .p (.mv), [.l 14], none, 0, 0⟩, ⟨.t 108, .p (.bin .sub), [.t 106, .t 107], none, 0, 0⟩, ⟨.l 16, .p (.mv), [.t 105], none, 0, 0⟩, ⟨.l 17, .p (.mv), [.t 108], none, 0, 0⟩])
 (.seq (.reg [⟨.t 109, .p (.mv), [.l 10], none, 0, 0⟩, ⟨.t 110, .p (.bin .quo), [.t 109, .c (.int .i64 8)], none, 0, 0⟩, ⟨.l 18, .p (.mv), [.t 110], none, 0, 0⟩])
 (.seq (.reg [⟨.t 111, .p (.mv), [.l 16], none, 0, 0⟩, ⟨.t 112, .p (.mv), [.l 17], none, 0, 0⟩, ⟨.l 113, .p (.bin .lss), [.t 111, .t 112], none, 0, 0⟩])
 (.cond (.l 113) (.seq (.reg [⟨.t 114, .p (.mv), [.l 16], none, 0, 0⟩, ⟨.t 115, .p (.mv), [.l 18], none, 0, 0⟩, ⟨.t 116, .p (.bin .geq), [.t 114, .t 115], none, 0, 0⟩, ⟨.l 8, .p (.mv), [.t 116], none, 0, 0⟩])
 (.seq (.reg [⟨.t 117, .p (.mv), [.l 0], none, 0, 0⟩, ⟨.t 118, .p (.mv), [.l 1], none, 0, 0⟩, ⟨.t 119, .p (.mv), [.l 14], none, 0, 0⟩, ⟨.t 120, .p (.mv), [.l 3], none, 0, 0⟩, ⟨.t 121, .call 310, [.t 117, .t 118, .t 119, .t 120], none, 0, 0⟩])
 (.reg [⟨.t 122, .p (.mv), [.l 14], none, 0, 0⟩, ⟨.t 123, .p (.bin .add), [.t 122, .c (.int .i64 1)], none, 0, 0⟩, ⟨.l 1, .p (.mv), [.t 123], none, 0, 0⟩])))
 (.seq (.reg [⟨.t 124, .p (.mv), [.l 17], none, 0, 0⟩, ⟨.t 125, .p (.mv), [.l 18], none, 0, 0⟩, ⟨.t 126, .p (.bin .geq), [.t 124, .t 125], none, 0, 0⟩, ⟨.l 8, .p (.mv), [.t 126], none, 0, 0⟩])
 (.seq (.reg [⟨.t 127, .p (.mv), [.l 0], none, 0, 0⟩, ⟨.t 128, .p (.mv), [.l 14], none, 0, 0⟩, ⟨.t 129, .p (.bin .add), [.t 128, .c (.int .i64 1)], none, 0, 0⟩, ⟨.t 130, .p (.mv), [.l 2], none, 0, 0⟩, ⟨.t 131, .p (.mv), [.l 3], none, 0, 0⟩, ⟨.t 132, .call 310, [.t 127, .t 129, .t 130, .t 131], none, 0, 0⟩])
 (.reg [⟨.t 133, .p (.mv), [.l 14], none, 0, 0⟩, ⟨.l 2, .p (.mv), [.t 133], none, 0, 0⟩])))))))))))))))))))))),
 []⟩
theorem cf310_ok : compF TP Tryz.f310 = some cf310 := by kernel_rfl
def cf311 : CF := ⟨1, (.seq (.reg [⟨.l 2, .p (.mv), [.c (.int .i64 0)], none, 0, 0⟩])
 (.seq (.cond (.c (.bool false)) (.seq (.reg [⟨.t 3, .p (.mv), [.l 0], none, 0, 0⟩, ⟨.t 4, .p (.toInt .u32), [.t 3], none, 0, 0⟩, ⟨.t 5, .call 397, [.t 4], none, 0, 0⟩, ⟨.l 2, .p (.mv), [.t 5], none, 0, 0⟩])
 .ret)
 .skip)
 (.seq (.reg [⟨.t 6, .p (.mv), [.l 0], none, 0, 0⟩, ⟨.t 7, .call 398, [.t 6], none, 0, 0⟩, ⟨.l 2, .p (.mv), [.t 7], none, 0, 0⟩])
 .ret))),
 [.tmp (.l 2)]⟩
theorem cf311_ok : compF TP Tryz.f311 = some cf311 := by kernel_rfl
def cf312 : CF := ⟨3, (.seq (.reg [⟨.l 6, .p (.mv), [.c (.bool false)], none, 0, 0⟩])
 (.seq (.seq (.reg [⟨.t 9, .p (.mv), [.l 0], none, 0, 0⟩, ⟨.t 10, .p (.leng .sl), [.t 9], none, 0, 0⟩, ⟨.t 11, .p (.mv), [.l 1], none, 0, 0⟩, ⟨.t 12, .p (.leng .sl), [.t 11], none, 0, 0⟩, ⟨.l 13, .p (.bin .neq), [.t 10, .t 12], none, 0, 0⟩])
 (.cond (.l 13) (.seq (.reg [⟨.l 6, .p (.mv), [.c (.bool false)], none, 0, 0⟩])
 .ret)
 .skip))
 (.seq (.seq (.reg [⟨.l 14, .p (.mv), [.l 0], none, 0, 0⟩, ⟨.l 15, .p (.leng .sl), [.l 14], none, 0, 0⟩, ⟨.l 16, .p (.mv), [.c (.int .i64 0)], none, 0, 0⟩])
 (.block 0 (.loop (.seq (.reg [⟨.l 17, .p (.bin .lss), [.l 16, .l 15], none, 0, 0⟩])
 (.seq (.cond (.l 17) .skip
 (.exit 0))
 (.seq (.block 1 (.seq (.reg [⟨.t 18, .p (.mv), [.l 16], none, 0, 0⟩, ⟨.t 19, .p (.ixsl 9), [.l 14, .l 16], none, 0, 0⟩, ⟨.t 20, .r (.load true 9), [.t 19], none, 0, 0⟩, ⟨.l 8, .a (.alloc [(.int .i64 0), (.int .i64 0), (.int .i64 0), (.str 0 0), (.str 0 0), (.int .i64 0), .nils, (.str 0 0), (.int .i64 0)]), [], none, 0, 0⟩, ⟨.l 7, .p (.mv), [.t 18], none, 0, 0⟩, ⟨.no, .e (.store 9), [.l 8, .t 20], none, 0, 0⟩])
 (.seq (.regD [⟨.t 21, .p (.mv), [.l 2], none, 0, 0⟩, ⟨.t 22, .r (.load true 9), [.l 8], none, 0, 0⟩, ⟨.t 23, .p (.mv), [.l 1], none, 0, 0⟩, ⟨.t 24, .p (.mv), [.l 7], none, 0, 0⟩, ⟨.t 25, .p (.ixsl 9), [.t 23, .t 24], none, 0, 0⟩, ⟨.t 26, .r (.load true 9), [.t 25], none, 0, 0⟩, ⟨.t 27, .callv, [.t 21, .t 22, .t 26], none, 0, 1⟩, ⟨.l 28, .p (.un .not), [.t 27], none, 1, 1⟩])
 (.cond (.l 28) (.seq (.reg [⟨.l 6, .p (.mv), [.c (.bool false)], none, 0, 0⟩])
 .ret)
 .skip))))
 (.reg [⟨.t 29, .p (.bin .add), [.l 16, .c (.int .i64 1)], none, 0, 0⟩, ⟨.l 16, .p (.mv), [.t 29], none, 0, 0⟩])))))))
 (.seq (.reg [⟨.l 6, .p (.mv), [.c (.bool true)], none, 0, 0⟩])
 .ret)))),
 [.tmp (.l 6)]⟩
theorem cf312_ok : compF TP Tryz.f312 = some cf312 := by kernel_rfl
def cf313 : CF := ⟨2, (.seq (.reg [⟨.l 4, .p (.mv), [.c (.int .i64 0)], none, 0, 0⟩])
 (.seq (.seq (.reg [⟨.t 6, .p (.mv), [.l 0], none, 0, 0⟩, ⟨.l 7, .p (.leng .sl), [.t 6], none, 0, 0⟩, ⟨.l 8, .p (.mv), [.c (.int .i64 0)], none, 0, 0⟩])
 (.block 0 (.loop (.seq (.reg [⟨.l 9, .p (.bin .lss), [.l 8, .l 7], none, 0, 0⟩])
 (.seq (.cond (.l 9) .skip
 (.exit 0))
 (.seq (.block 1 (.seq (.reg [⟨.t 10, .p (.mv), [.l 8], none, 0, 0⟩, ⟨.l 5, .p (.mv), [.t 10], none, 0, 0⟩])
 (.seq (.reg [⟨.t 11, .p (.mv), [.l 1], none, 0, 0⟩, ⟨.t 12, .p (.mv), [.l 0], none, 0, 0⟩, ⟨.t 13, .p (.mv), [.l 5], none, 0, 0⟩, ⟨.t 14, .p (.ixsl 9), [.t 12, .t 13], none, 0, 0⟩, ⟨.t 15, .r (.load true 9), [.t 14], none, 0, 0⟩, ⟨.l 16, .callv, [.t 11, .t 15], none, 0, 0⟩])
 (.cond (.l 16) (.seq (.reg [⟨.t 17, .p (.mv), [.l 5], none, 0, 0⟩, ⟨.l 4, .p (.mv), [.t 17], none, 0, 0⟩])
 .ret)
 .skip))))
 (.reg [⟨.t 18, .p (.bin .add), [.l 8, .c (.int .i64 1)], none, 0, 0⟩, ⟨.l 8, .p (.mv), [.t 18], none, 0, 0⟩])))))))
 (.seq (.reg [⟨.l 4, .p (.mv), [.c (.int .i64 (-1))], none, 0, 0⟩])
 .ret))),
 [.tmp (.l 4)]⟩
theorem cf313_ok : compF TP Tryz.f313 = some cf313 := by kernel_rfl
def cf314 : CF := ⟨2, (.seq (.reg [⟨.l 4, .p (.mv), [.c (.int .i64 0)], none, 0, 0⟩])
 (.seq (.seq (.reg [⟨.t 6, .p (.mv), [.l 0], none, 0, 0⟩, ⟨.l 7, .p (.leng .sl), [.t 6], none, 0, 0⟩, ⟨.l 8, .p (.mv), [.c (.int .i64 0)], none, 0, 0⟩])
 (.block 0 (.loop (.seq (.reg [⟨.l 9, .p (.bin .lss), [.l 8, .l 7], none, 0, 0⟩])
 (.seq (.cond (.l 9) .skip
 (.exit 0))
 (.seq (.block 1 (.seq (.reg [⟨.t 10, .p (.mv), [.l 8], none, 0, 0⟩, ⟨.l 5, .p (.mv), [.t 10], none, 0, 0⟩])
 (.seq (.reg [⟨.t 11, .p (.mv), [.l 1], none, 0, 0⟩, ⟨.t 12, .p (.mv), [.l 0], none, 0, 0⟩, ⟨.t 13, .p (.mv), [.l 5], none, 0, 0⟩, ⟨.t 14, .p (.ixsl 1), [.t 12, .t 13], none, 0, 0⟩, ⟨.t 15, .r (.load false 1), [.t 14], none, 0, 0⟩, ⟨.l 16, .callv, [.t 11, .t 15], none, 0, 0⟩])
 (.cond (.l 16) (.seq (.reg [⟨.t 17, .p (.mv), [.l 5], none, 0, 0⟩, ⟨.l 4, .p (.mv), [.t 17], none, 0, 0⟩])
 .ret)
 .skip))))
 (.reg [⟨.t 18, .p (.bin .add), [.l 8, .c (.int .i64 1)], none, 0, 0⟩, ⟨.l 8, .p (.mv), [.t 18], none, 0, 0⟩])))))))
 (.seq (.reg [⟨.l 4, .p (.mv), [.c (.int .i64 (-1))], none, 0, 0⟩])
 .ret))),
 [.tmp (.l 4)]⟩
theorem cf314_ok : compF TP Tryz.f314 = some cf314 := by kernel_rfl
def cf316 : CF := ⟨2, (.seq (.reg [⟨.l 4, .p (.mv), [.c (.str 0 0)], none, 0, 0⟩, ⟨.l 5, .p (.mv), [.c (.bool false)], none, 0, 0⟩])
 (.seq (.seq (.reg [⟨.t 6, .p (.mv), [.l 0], none, 0, 0⟩, ⟨.t 7, .call 68, [.t 6], none, 0, 0⟩, ⟨.t 8, .p (.un .not), [.t 7], none, 0, 0⟩, ⟨.t 9, .p (.mv), [.t 8], none, 0, 0⟩, ⟨.t 10, .p (.mv), [.l 1], (some (.t 9, false)), 0, 0⟩, ⟨.t 11, .p (.bin .lss), [.t 10, .c (.int .i64 0)], (some (.t 9, false)), 0, 0⟩, ⟨.t 12, .p (.pick), [.t 9, .c (.bool true), .t 11], none, 0, 0⟩, ⟨.t 13, .p (.mv), [.t 12], none, 0, 0⟩, ⟨.t 14, .p (.mv), [.l 1], (some (.t 13, false)), 0, 0⟩, ⟨.t 15, .p (.mv), [.l 0], (some (.t 13, false)), 0, 0⟩, ⟨.t 16, .p (.nilc), [.t 15], (some (.t 13, false)), 0, 0⟩, ⟨.t 17, .p (.fa 1), [.t 16], (some (.t 13, false)), 0, 0⟩, ⟨.t 18, .r (.load false 1), [.t 17], (some (.t 13, false)), 0, 0⟩, ⟨.t 19, .p (.leng .sl), [.t 18], (some (.t 13, false)), 0, 0⟩, ⟨.t 20, .p (.bin .geq), [.t 14, .t 19], (some (.t 13, false)), 0, 0⟩, ⟨.l 21, .p (.pick), [.t 13, .c (.bool true), .t 20], none, 0, 0⟩])
 (.cond (.l 21) (.seq (.reg [⟨.l 4, .p (.mv), [.c (.str 0 0)], none, 0, 0⟩, ⟨.l 5, .p (.mv), [.c (.bool false)], none, 0, 0⟩])
 .ret)
 .skip))
 (.seq (.reg [⟨.t 22, .p (.mv), [.l 0], none, 0, 0⟩, ⟨.t 23, .p (.nilc), [.t 22], none, 0, 0⟩, ⟨.t 24, .p (.fa 1), [.t 23], none, 0, 0⟩, ⟨.t 25, .r (.load false 1), [.t 24], none, 0, 0⟩, ⟨.t 26, .p (.mv), [.l 1], none, 0, 0⟩, ⟨.t 27, .p (.ixsl 1), [.t 25, .t 26], none, 0, 0⟩, ⟨.t 28, .r (.load false 1), [.t 27], none, 0, 0⟩, ⟨.l 4, .p (.mv), [.t 28], none, 0, 0⟩, ⟨.l 5, .p (.mv), [.c (.bool true)], none, 0, 0⟩])
 .ret))),
 [.tmp (.l 4), .tmp (.l 5)]⟩
theorem cf316_ok : compF TP Tryz.f316 = some cf316 := by kernel_rfl
def cf317 : CF := ⟨1, (.seq (.reg [⟨.l 2, .p (.mv), [.c (.bool false)], none, 0, 0⟩])
 (.seq (.reg [⟨.t 3, .p (.mv), [.l 0], none, 0, 0⟩, ⟨.t 4, .p (.mv), [.l 0], none, 0, 0⟩, ⟨.t 5, .p (.bin .neq), [.t 3, .t 4], none, 0, 0⟩, ⟨.l 2, .p (.mv), [.t 5], none, 0, 0⟩])
 .ret)),
 [.tmp (.l 2)]⟩
theorem cf317_ok : compF TP Tryz.f317 = some cf317 := by kernel_rfl
def cf318 : CF := ⟨3, (.seq (.reg [⟨.l 6, .p (.mv), [.c (.int .i64 0)], none, 0, 0⟩])
 (.seq (.seq (.reg [⟨.t 9, .p (.mv), [.l 0], none, 0, 0⟩, ⟨.l 10, .p (.leng .sl), [.t 9], none, 0, 0⟩, ⟨.l 11, .p (.mv), [.c (.int .i64 0)], none, 0, 0⟩])
 (.block 0 (.loop (.seq (.reg [⟨.l 12, .p (.bin .lss), [.l 11, .l 10], none, 0, 0⟩])
 (.seq (.cond (.l 12) .skip
 (.exit 0))
 (.seq (.block 1 (.seq (.reg [⟨.t 13, .p (.mv), [.l 11], none, 0, 0⟩, ⟨.l 7, .p (.mv), [.t 13], none, 0, 0⟩])
 (.seq (.regD [⟨.t 14, .p (.mv), [.l 2], none, 0, 0⟩, ⟨.t 15, .p (.mv), [.l 0], none, 0, 0⟩, ⟨.t 16, .p (.mv), [.l 7], none, 0, 0⟩, ⟨.t 17, .p (.ixsl 9), [.t 15, .t 16], none, 0, 0⟩, ⟨.t 18, .r (.load true 9), [.t 17], none, 0, 0⟩, ⟨.t 19, .p (.mv), [.l 1], none, 0, 0⟩, ⟨.t 20, .p (.mv), [.l 7], none, 0, 0⟩, ⟨.t 21, .p (.ixsl 9), [.t 19, .t 20], none, 0, 0⟩, ⟨.t 22, .r (.load true 9), [.t 21], none, 0, 0⟩, ⟨.t 23, .callv, [.t 14, .t 18, .t 22], none, 0, 1⟩, ⟨.l 8, .p (.mv), [.t 23], none, 1, 1⟩])
 (.seq (.reg [⟨.t 24, .p (.mv), [.l 8], none, 0, 0⟩, ⟨.l 25, .p (.bin .neq), [.t 24, .c (.int .i64 0)], none, 0, 0⟩])
 (.cond (.l 25) (.seq (.reg [⟨.t 26, .p (.mv), [.l 8], none, 0, 0⟩, ⟨.l 6, .p (.mv), [.t 26], none, 0, 0⟩])
 .ret)
 .skip)))))
 (.reg [⟨.t 27, .p (.bin .add), [.l 11, .c (.int .i64 1)], none, 0, 0⟩, ⟨.l 11, .p (.mv), [.t 27], none, 0, 0⟩])))))))
 (.seq (.reg [⟨.l 6, .p (.mv), [.c (.int .i64 0)], none, 0, 0⟩])
 .ret))),
 [.tmp (.l 6)]⟩
theorem cf318_ok : compF TP Tryz.f318 = some cf318 := by kernel_rfl
def cf321 : CF := ⟨1, (.seq (.reg [⟨.l 2, .p (.mv), [.c (.bool false)], none, 0, 0⟩])
 (.seq (.reg [⟨.t 3, .p (.mv), [.l 0], none, 0, 0⟩, ⟨.t 4, .p (.mv), [.l 0], none, 0, 0⟩, ⟨.t 5, .p (.bin .neq), [.t 3, .t 4], none, 0, 0⟩, ⟨.l 2, .p (.mv), [.t 5], none, 0, 0⟩])
 .ret)),
 [.tmp (.l 2)]⟩
theorem cf321_ok : compF TP Tryz.f321 = some cf321 := by kernel_rfl
def cf322 : CF := ⟨1, (.seq (.reg [⟨.l 1, .a (.box), [.l 0], none, 0, 0⟩, ⟨.l 2, .p (.mv), [.c .nilf], none, 0, 0⟩])
 (.seq (.reg [⟨.t 3, .p (.mkf (.func 401) 0), [.l 1], none, 0, 0⟩, ⟨.l 2, .p (.mv), [.t 3], none, 0, 0⟩])
 .ret)),
 [.tmp (.l 2)]⟩
theorem cf322_ok : compF TP Tryz.f322 = some cf322 := by kernel_rfl
def cf324 : CF := ⟨2, (.seq (.reg [⟨.l 2, .a (.box), [.l 0], none, 0, 0⟩, ⟨.l 3, .a (.box), [.l 1], none, 0, 0⟩, ⟨.l 4, .p (.mv), [.c (.int .i64 0)], none, 0, 0⟩, ⟨.l 5, .p (.mv), [.c (.int .i64 0)], none, 0, 0⟩])
 (.seq (.reg [⟨.t 8, .r (.load false 1), [.l 2], none, 0, 0⟩, ⟨.t 9, .r (.load false 1), [.l 3], none, 0, 0⟩, ⟨.t 10, .p (.bin .sub), [.t 8, .t 9], none, 0, 0⟩, ⟨.l 6, .a (.alloc [(.int .i64 0)]), [], none, 0, 0⟩, ⟨.no, .e (.store 1), [.l 6, .t 10], none, 0, 0⟩])
 (.seq (.reg [⟨.t 11, .p (.mkf (.func 405) 0), [.l 2, .l 3, .l 6], none, 0, 0⟩, ⟨.l 7, .p (.mv), [.t 11], none, 0, 0⟩])
 (.seq (.seq (.reg [⟨.t 12, .p (.mv), [.l 7], none, 0, 0⟩, ⟨.l 13, .callv, [.t 12], none, 0, 0⟩])
 (.cond (.l 13) (.seq (.reg [⟨.l 4, .p (.mv), [.c (.int .i64 0)], none, 0, 0⟩, ⟨.l 5, .p (.mv), [.c (.int .i64 7)], none, 0, 0⟩])
 .ret)
 .skip))
 (.seq (.reg [⟨.t 14, .r (.load false 1), [.l 6], none, 0, 0⟩, ⟨.l 4, .p (.mv), [.t 14], none, 0, 0⟩, ⟨.l 5, .p (.mv), [.c (.int .i64 0)], none, 0, 0⟩])
 .ret))))),
 [.tmp (.l 4), .tmp (.l 5)]⟩
theorem cf324_ok : compF TP Tryz.f324 = some cf324 := by kernel_rfl
def cf336 : CF := ⟨1, (.seq (.reg [⟨.l 1, .a (.box), [.l 0], none, 0, 0⟩, ⟨.l 2, .p (.mv), [.c .nilf], none, 0, 0⟩])
 (.seq (.reg [⟨.t 3, .p (.mkf (.func 408) 0), [.l 1], none, 0, 0⟩, ⟨.l 2, .p (.mv), [.t 3], none, 0, 0⟩])
 .ret)),
 [.tmp (.l 2)]⟩
theorem cf336_ok : compF TP Tryz.f336 = some cf336 := by kernel_rfl
def cf341 : CF := ⟨1, (.seq (.reg [⟨.l 1, .a (.box), [.l 0], none, 0, 0⟩, ⟨.l 2, .p (.mv), [.c .nilf], none, 0, 0⟩])
 (.seq (.reg [⟨.t 3, .p (.mkf (.func 409) 0), [.l 1], none, 0, 0⟩, ⟨.l 2, .p (.mv), [.t 3], none, 0, 0⟩])
 .ret)),
 [.tmp (.l 2)]⟩
theorem cf341_ok : compF TP Tryz.f341 = some cf341 := by kernel_rfl
def cf379 : CF := ⟨2, (.seq (.reg [⟨.l 2, .a (.box), [.l 0], none, 0, 0⟩, ⟨.l 4, .a (.alloc [.nils, .nils, (.int .i64 0)]), [], none, 0, 0⟩, ⟨.l 5, .p (.mv), [.c .nils], none, 0, 0⟩, ⟨.l 6, .p (.mv), [.c (.int .i64 0)], none, 0, 0⟩])
 (.seq (.seq (.reg [⟨.t 9, .r (.load true 3), [.l 2], none, 0, 0⟩, ⟨.t 10, .p (.mv), [.l 1], none, 0, 0⟩, ⟨.t 11, .call 425, [.t 9, .t 10], none, 0, 0⟩, ⟨.l 12, .p (.un .not), [.t 11], none, 0, 0⟩])
 (.cond (.l 12) (.seq (.reg [⟨.t 13, .p (.build [.nils, .nils, (.int .i64 0)] []), [], none, 0, 0⟩, ⟨.no, .e (.store 3), [.l 4, .t 13], none, 0, 0⟩, ⟨.l 5, .p (.mv), [.c .nils], none, 0, 0⟩, ⟨.l 6, .p (.mv), [.c (.int .i64 6)], none, 0, 0⟩])
 .ret)
 .skip))
 (.seq (.regD [⟨.t 14, .p (.fa 1), [.l 2], none, 0, 0⟩, ⟨.t 15, .r (.load false 1), [.t 14], none, 0, 0⟩, ⟨.t 18, .r (.load true 3), [.l 2], none, 0, 1⟩, ⟨.t 19, .a (.mkm false), [], none, 0, 1⟩, ⟨.t 16, .call 212, [.t 15], none, 0, 1⟩, ⟨.t 17, .p (.build [.nils, .nils, (.int .i64 0)] [(1, 1)]), [.t 16], none, 1, 1⟩, ⟨.t 20, .p (.build [.nils, .nils, (.int .i64 0), .nils, .nils, (.int .i64 0), (.bool false), .nilm, .nils] [(0, 3), (3, 3), (7, 1)]), [.t 17, .t 18, .t 19], none, 1, 1⟩, ⟨.t 21, .a (.box), [.t 20], none, 1, 1⟩, ⟨.l 7, .p (.mv), [.t 21], none, 1, 1⟩])
 (.seq (.reg [⟨.t 22, .p (.mv), [.l 7], none, 0, 0⟩, ⟨.t 23, .p (.mv), [.l 1], none, 0, 0⟩, ⟨.t 24, .call 426, [.t 22, .t 23], none, 0, 0⟩, ⟨.l 8, .p (.mv), [.t 24], none, 0, 0⟩])
 (.seq (.reg [⟨.t 25, .p (.mv), [.l 7], none, 0, 0⟩, ⟨.t 26, .p (.mv), [.l 7], none, 0, 0⟩, ⟨.t 27, .p (.nilc), [.t 26], none, 0, 0⟩, ⟨.t 28, .p (.fa 0), [.t 27], none, 0, 0⟩, ⟨.t 29, .p (.fa 0), [.t 28], none, 0, 0⟩, ⟨.t 30, .r (.load false 1), [.t 29], none, 0, 0⟩, ⟨.t 31, .p (.leng .sl), [.t 30], none, 0, 0⟩, ⟨.t 32, .p (.nilc), [.t 25], none, 0, 0⟩, ⟨.t 33, .p (.fa 0), [.t 32], none, 0, 0⟩, ⟨.t 34, .p (.fa 2), [.t 33], none, 0, 0⟩, ⟨.no, .e (.store 1), [.t 34, .t 31], none, 0, 0⟩])
 (.seq (.reg [⟨.t 35, .p (.mv), [.l 7], none, 0, 0⟩, ⟨.t 36, .p (.nilc), [.t 35], none, 0, 0⟩, ⟨.t 37, .p (.fa 0), [.t 36], none, 0, 0⟩, ⟨.t 38, .r (.load true 3), [.t 37], none, 0, 0⟩, ⟨.t 39, .p (.mv), [.l 8], none, 0, 0⟩, ⟨.no, .e (.store 3), [.l 4, .t 38], none, 0, 0⟩, ⟨.l 5, .p (.mv), [.t 39], none, 0, 0⟩, ⟨.l 6, .p (.mv), [.c (.int .i64 0)], none, 0, 0⟩])
 .ret)))))),
 [.cell (.l 4) true 3, .tmp (.l 5), .tmp (.l 6)]⟩
theorem cf379_ok : compF TP Tryz.f379 = some cf379 := by kernel_rfl
def cf380 : CF := ⟨2, (.seq (.reg [⟨.l 2, .a (.box), [.l 0], none, 0, 0⟩, ⟨.l 4, .a (.alloc [.nils, .nils, (.int .i64 0)]), [], none, 0, 0⟩, ⟨.l 5, .p (.mv), [.c .nils], none, 0, 0⟩, ⟨.l 6, .p (.mv), [.c (.int .i64 0)], none, 0, 0⟩])
 (.seq (.seq (.reg [⟨.t 8, .r (.load true 3), [.l 2], none, 0, 0⟩, ⟨.t 9, .p (.mv), [.l 1], none, 0, 0⟩, ⟨.t 10, .call 425, [.t 8, .t 9], none, 0, 0⟩, ⟨.l 11, .p (.un .not), [.t 10], none, 0, 0⟩])
 (.cond (.l 11) (.seq (.reg [⟨.t 12, .p (.build [.nils, .nils, (.int .i64 0)] []), [], none, 0, 0⟩, ⟨.no, .e (.store 3), [.l 4, .t 12], none, 0, 0⟩, ⟨.l 5, .p (.mv), [.c .nils], none, 0, 0⟩, ⟨.l 6, .p (.mv), [.c (.int .i64 6)], none, 0, 0⟩])
 .ret)
 .skip))
 (.seq (.reg [⟨.t 13, .r (.load true 3), [.l 2], none, 0, 0⟩, ⟨.t 14, .a (.mkm false), [], none, 0, 0⟩, ⟨.t 15, .p (.build [.nils, .nils, (.int .i64 0), .nils, .nils, (.int .i64 0), (.bool false), .nilm, .nils] [(3, 3), (6, 1), (7, 1)]), [.t 13, .c (.bool true), .t 14], none, 0, 0⟩, ⟨.t 16, .a (.box), [.t 15], none, 0, 0⟩, ⟨.l 7, .p (.mv), [.t 16], none, 0, 0⟩])
 (.seq (.reg [⟨.t 17, .p (.mv), [.l 7], none, 0, 0⟩, ⟨.t 18, .p (.mv), [.l 7], none, 0, 0⟩, ⟨.t 19, .p (.mv), [.l 1], none, 0, 0⟩, ⟨.t 20, .call 426, [.t 18, .t 19], none, 0, 0⟩, ⟨.t 21, .call 427, [.t 17, .t 20], none, 0, 0⟩, ⟨.t 22, .p (.ext 0), [.t 21], none, 0, 0⟩, ⟨.t 23, .p (.ext 1), [.t 21], none, 0, 0⟩, ⟨.t 24, .p (.ext 2), [.t 21], none, 0, 0⟩, ⟨.no, .e (.store 3), [.l 4, .t 22], none, 0, 0⟩, ⟨.l 5, .p (.mv), [.t 23], none, 0, 0⟩, ⟨.l 6, .p (.mv), [.t 24], none, 0, 0⟩])
 .ret)))),
 [.cell (.l 4) true 3, .tmp (.l 5), .tmp (.l 6)]⟩
theorem cf380_ok : compF TP Tryz.f380 = some cf380 := by kernel_rfl
def cf381 : CF := ⟨1, (.seq (.reg [⟨.l 1, .a (.box), [.l 0], none, 0, 0⟩, ⟨.l 2, .a (.alloc [.nils, .nils, .nils, .nils]), [], none, 0, 0⟩, ⟨.l 3, .a (.alloc [(.bool false)]), [], none, 0, 0⟩])
 (.seq (.reg [⟨.t 22, .p (.fa 0), [.l 1], none, 0, 0⟩, ⟨.t 23, .r (.load false 1), [.t 22], none, 0, 0⟩, ⟨.t 24, .call 428, [.t 23], none, 0, 0⟩, ⟨.t 21, .p (.mv), [.t 24], none, 0, 0⟩, ⟨.t 25, .p (.ext 0), [.t 21], none, 0, 0⟩, ⟨.t 26, .p (.ext 1), [.t 21], none, 0, 0⟩, ⟨.l 4, .a (.alloc [.nils, .nils]), [], none, 0, 0⟩, ⟨.no, .e (.store 2), [.l 4, .t 25], none, 0, 0⟩, ⟨.l 5, .p (.mv), [.t 26], none, 0, 0⟩])
 (.seq (.reg [⟨.t 28, .p (.fa 1), [.l 1], none, 0, 0⟩, ⟨.t 29, .r (.load false 1), [.t 28], none, 0, 0⟩, ⟨.t 30, .call 428, [.t 29], none, 0, 0⟩, ⟨.t 27, .p (.mv), [.t 30], none, 0, 0⟩, ⟨.t 31, .p (.ext 0), [.t 27], none, 0, 0⟩, ⟨.t 32, .p (.ext 1), [.t 27], none, 0, 0⟩, ⟨.l 6, .a (.alloc [.nils, .nils]), [], none, 0, 0⟩, ⟨.no, .e (.store 2), [.l 6, .t 31], none, 0, 0⟩, ⟨.l 7, .p (.mv), [.t 32], none, 0, 0⟩])
 (.seq (.reg [⟨.t 33, .r (.load true 2), [.l 4], none, 0, 0⟩, ⟨.t 34, .r (.load true 2), [.l 6], none, 0, 0⟩, ⟨.t 35, .p (.build [.nils, .nils, .nils, .nils] [(0, 2), (2, 2)]), [.t 33, .t 34], none, 0, 0⟩, ⟨.l 8, .a (.alloc [.nils, .nils, .nils, .nils]), [], none, 0, 0⟩, ⟨.no, .e (.store 4), [.l 8, .t 35], none, 0, 0⟩])
 (.seq (.seq (.reg [⟨.t 36, .p (.mv), [.l 5], none, 0, 0⟩, ⟨.t 37, .p (.un .not), [.t 36], none, 0, 0⟩, ⟨.t 38, .p (.mv), [.t 37], none, 0, 0⟩, ⟨.t 39, .p (.mv), [.l 7], (some (.t 38, false)), 0, 0⟩, ⟨.t 40, .p (.un .not), [.t 39], (some (.t 38, false)), 0, 0⟩, ⟨.t 41, .p (.pick), [.t 38, .c (.bool true), .t 40], none, 0, 0⟩, ⟨.t 42, .p (.mv), [.t 41], none, 0, 0⟩, ⟨.t 43, .p (.fa 0), [.l 1], (some (.t 42, false)), 0, 0⟩, ⟨.t 44, .r (.load false 1), [.t 43], (some (.t 42, false)), 0, 0⟩, ⟨.t 45, .p (.leng .sl), [.t 44], (some (.t 42, false)), 0, 0⟩, ⟨.t 46, .p (.bin .gtr), [.t 45, .c (.int .i64 2147483647)], (some (.t 42, false)), 0, 0⟩, ⟨.t 47, .p (.pick), [.t 42, .c (.bool true), .t 46], none, 0, 0⟩, ⟨.t 48, .p (.mv), [.t 47], none, 0, 0⟩, ⟨.t 49, .p (.fa 1), [.l 1], (some (.t 48, false)), 0, 0⟩, ⟨.t 50, .r (.load false 1), [.t 49], (some (.t 48, false)), 0, 0⟩, ⟨.t 51, .p (.leng .sl), [.t 50], (some (.t 48, false)), 0, 0⟩, ⟨.t 52, .p (.bin .gtr), [.t 51, .c (.int .i64 2147483647)], (some (.t 48, false)), 0, 0⟩, ⟨.t 53, .p (.pick), [.t 48, .c (.bool true), .t 52], none, 0, 0⟩, ⟨.t 54, .p (.mv), [.t 53], none, 0, 0⟩, ⟨.t 55, .p (.fa 2), [.l 1], (some (.t 54, false)), 0, 0⟩, ⟨.t 56, .r (.load false 1), [.t 55], (some (.t 54, false)), 0, 0⟩, ⟨.t 57, .p (.bin .lss), [.t 56, .c (.int .i64 0)], (some (.t 54, false)), 0, 0⟩, ⟨.t 58, .p (.pick), [.t 54, .c (.bool true), .t 57], none, 0, 0⟩, ⟨.t 59, .p (.mv), [.t 58], none, 0, 0⟩, ⟨.t 60, .p (.fa 2), [.l 1], (some (.t 59, false)), 0, 0⟩, ⟨.t 61, .r (.load false 1), [.t 60], (some (.t 59, false)), 0, 0⟩, ⟨.t 62, .p (.fa 0), [.l 1], (some (.t 59, false)), 0, 0⟩, ⟨.t 63, .r (.load false 1), [.t 62], (some (.t 59, false)), 0, 0⟩, ⟨.t 64, .p (.leng .sl), [.t 63], (some (.t 59, false)), 0, 0⟩, ⟨.t 65, .p (.bin .gtr), [.t 61, .t 64], (some (.t 59, false)), 0, 0⟩, ⟨.t 66, .p (.pick), [.t 59, .c (.bool true), .t 65], none, 0, 0⟩, ⟨.t 67, .p (.mv), [.t 66], none, 0, 0⟩, ⟨.t 68, .p (.fa 2), [.l 1], (some (.t 67, false)), 0, 0⟩, ⟨.t 69, .r (.load false 1), [.t 68], (some (.t 67, false)), 0, 0⟩, ⟨.t 70, .p (.fa 0), [.l 1], (some (.t 67, false)), 0, 0⟩, ⟨.t 71, .r (.load false 1), [.t 70], (some (.t 67, false)), 0, 0⟩, ⟨.t 72, .p (.leng .sl), [.t 71], (some (.t 67, false)), 0, 0⟩, ⟨.t 73, .p (.bin .lss), [.t 69, .t 72], (some (.t 67, false)), 0, 0⟩, ⟨.t 74, .p (.mv), [.t 73], (some (.t 67, false)), 0, 0⟩, ⟨.t 75, .p (.fa 1), [.l 4], (some (.t 74, true)), 0, 0⟩, ⟨.t 76, .r (.load false 1), [.t 75], (some (.t 74, true)), 0, 0⟩, ⟨.t 77, .p (.fa 2), [.l 1], (some (.t 74, true)), 0, 0⟩, ⟨.t 78, .r (.load false 1), [.t 77], (some (.t 74, true)), 0, 0⟩, ⟨.t 79, .p (.ixsl 1), [.t 76, .t 78], (some (.t 74, true)), 0, 0⟩, ⟨.t 80, .r (.load false 1), [.t 79], (some (.t 74, true)), 0, 0⟩, ⟨.t 81, .p (.un .not), [.t 80], (some (.t 74, true)), 0, 0⟩, ⟨.t 82, .p (.pick), [.t 74, .t 81, .c (.bool false)], (some (.t 67, false)), 0, 0⟩, ⟨.l 83, .p (.pick), [.t 67, .c (.bool true), .t 82], none, 0, 0⟩])
 (.cond (.l 83) (.seq (.reg [⟨.t 84, .p (.build [.nils, .nils, .nils, .nils] []), [], none, 0, 0⟩, ⟨.no, .e (.store 4), [.l 2, .t 84], none, 0, 0⟩, ⟨.no, .e (.store 1), [.l 3, .c (.bool false)], none, 0, 0⟩])
 .ret)
 .skip))
 (.seq (.seq (.reg [⟨.l 85, .call 429, [.l 8], none, 0, 0⟩])
 (.block 0 (.rangeF (.l 85) [.l 86] (.reg [⟨.l 9, .p (.mv), [.l 86], none, 0, 0⟩]) (.block 1 (.seq (.reg [⟨.t 88, .p (.mv), [.l 9], none, 0, 0⟩, ⟨.t 89, .call 158, [.t 88], none, 0, 0⟩, ⟨.t 87, .p (.mv), [.t 89], none, 0, 0⟩, ⟨.t 90, .p (.ext 0), [.t 87], none, 0, 0⟩, ⟨.t 91, .p (.ext 1), [.t 87], none, 0, 0⟩, ⟨.t 92, .p (.ext 2), [.t 87], none, 0, 0⟩, ⟨.l 10, .p (.mv), [.t 90], none, 0, 0⟩, ⟨.l 11, .p (.mv), [.t 91], none, 0, 0⟩, ⟨.t 12, .p (.mv), [.t 92], none, 0, 0⟩])
 (.seq (.reg [⟨.t 94, .p (.mv), [.l 9], none, 0, 0⟩, ⟨.t 95, .call 105, [.l 8, .t 94], none, 0, 0⟩, ⟨.t 93, .p (.mv), [.t 95], none, 0, 0⟩, ⟨.t 96, .p (.ext 0), [.t 93], none, 0, 0⟩, ⟨.t 97, .p (.ext 1), [.t 93], none, 0, 0⟩, ⟨.t 98, .p (.ext 2), [.t 93], none, 0, 0⟩, ⟨.l 13, .p (.mv), [.t 96], none, 0, 0⟩, ⟨.l 14, .p (.mv), [.t 97], none, 0, 0⟩, ⟨.t 15, .p (.mv), [.t 98], none, 0, 0⟩])
 (.seq (.seq (.reg [⟨.t 99, .p (.mv), [.l 13], none, 0, 0⟩, ⟨.t 100, .p (.mv), [.l 14], none, 0, 0⟩, ⟨.t 101, .call 430, [.t 99, .t 100], none, 0, 0⟩, ⟨.l 102, .p (.un .not), [.t 101], none, 0, 0⟩])
 (.cond (.l 102) (.seq (.reg [⟨.t 103, .p (.build [.nils, .nils, .nils, .nils] []), [], none, 0, 0⟩, ⟨.no, .e (.store 4), [.l 2, .t 103], none, 0, 0⟩, ⟨.no, .e (.store 1), [.l 3, .c (.bool false)], none, 0, 0⟩])
 .ret)
 .skip))
 (.seq (.reg [⟨.t 104, .p (.mv), [.l 14], none, 0, 0⟩, ⟨.t 105, .p (.mv), [.l 13], none, 0, 0⟩, ⟨.t 106, .p (.mv), [.l 14], none, 0, 0⟩, ⟨.t 107, .call 106, [.t 105, .t 106], none, 0, 0⟩, ⟨.l 108, .p (.slc (.sl 1) true false false), [.t 104, .t 107], none, 0, 0⟩, ⟨.l 109, .p (.leng .sl), [.l 108], none, 0, 0⟩, ⟨.l 110, .p (.mv), [.c (.int .i64 0)], none, 0, 0⟩])
 (.block 2 (.loop (.seq (.reg [⟨.l 111, .p (.bin .lss), [.l 110, .l 109], none, 0, 0⟩])
 (.seq (.cond (.l 111) .skip
 (.exit 2))
 (.seq (.block 3 (.seq (.reg [⟨.t 112, .p (.ixsl 1), [.l 108, .l 110], none, 0, 0⟩, ⟨.t 113, .r (.load false 1), [.t 112], none, 0, 0⟩, ⟨.l 17, .p (.mv), [.t 113], none, 0, 0⟩])
 (.seq (.seq (.reg [⟨.t 114, .p (.mv), [.l 17], none, 0, 0⟩, ⟨.t 115, .call 230, [.l 8, .t 114], none, 0, 0⟩, ⟨.l 116, .p (.un .not), [.t 115], none, 0, 0⟩])
 (.cond (.l 116) (.seq (.reg [⟨.t 117, .p (.build [.nils, .nils, .nils, .nils] []), [], none, 0, 0⟩, ⟨.no, .e (.store 4), [.l 2, .t 117], none, 0, 0⟩, ⟨.no, .e (.store 1), [.l 3, .c (.bool false)], none, 0, 0⟩])
 .ret)
 .skip))
 (.seq (.reg [⟨.t 119, .p (.mv), [.l 17], none, 0, 0⟩, ⟨.t 120, .call 158, [.t 119], none, 0, 0⟩, ⟨.t 118, .p (.mv), [.t 120], none, 0, 0⟩, ⟨.t 121, .p (.ext 0), [.t 118], none, 0, 0⟩, ⟨.t 122, .p (.ext 1), [.t 118], none, 0, 0⟩, ⟨.t 123, .p (.ext 2), [.t 118], none, 0, 0⟩, ⟨.l 18, .p (.mv), [.t 121], none, 0, 0⟩, ⟨.l 19, .p (.mv), [.t 122], none, 0, 0⟩, ⟨.l 20, .p (.mv), [.t 123], none, 0, 0⟩])
 (.seq (.reg [⟨.t 124, .p (.mv), [.l 20], none, 0, 0⟩, ⟨.t 125, .p (.mv), [.t 124], none, 0, 0⟩, ⟨.t 126, .p (.mv), [.l 18], (some (.t 125, true)), 0, 0⟩, ⟨.t 127, .p (.un .not), [.t 126], (some (.t 125, true)), 0, 0⟩, ⟨.t 128, .p (.pick), [.t 125, .t 127, .c (.bool false)], none, 0, 0⟩, ⟨.t 129, .p (.mv), [.t 128], none, 0, 0⟩, ⟨.t 130, .p (.mv), [.l 10], (some (.t 129, true)), 0, 0⟩, ⟨.t 131, .p (.mv), [.t 130], (some (.t 129, true)), 0, 0⟩, ⟨.t 132, .p (.mv), [.l 11], (some (.t 131, false)), 0, 0⟩, ⟨.t 133, .p (.fa 2), [.l 1], (some (.t 131, false)), 0, 0⟩, ⟨.t 134, .r (.load false 1), [.t 133], (some (.t 131, false)), 0, 0⟩, ⟨.t 135, .p (.bin .lss), [.t 132, .t 134], (some (.t 131, false)), 0, 0⟩, ⟨.t 136, .p (.mv), [.t 135], (some (.t 131, false)), 0, 0⟩, ⟨.t 137, .p (.mv), [.l 19], (some (.t 136, true)), 0, 0⟩, ⟨.t 138, .p (.fa 2), [.l 1], (some (.t 136, true)), 0, 0⟩, ⟨.t 139, .r (.load false 1), [.t 138], (some (.t 136, true)), 0, 0⟩, ⟨.t 140, .p (.bin .geq), [.t 137, .t 139], (some (.t 136, true)), 0, 0⟩, ⟨.t 141, .p (.pick), [.t 136, .t 140, .c (.bool false)], (some (.t 131, false)), 0, 0⟩, ⟨.t 142, .p (.pick), [.t 131, .c (.bool true), .t 141], (some (.t 129, true)), 0, 0⟩, ⟨.l 143, .p (.pick), [.t 129, .t 142, .c (.bool false)], none, 0, 0⟩])
 (.cond (.l 143) (.seq (.reg [⟨.t 144, .p (.build [.nils, .nils, .nils, .nils] []), [], none, 0, 0⟩, ⟨.no, .e (.store 4), [.l 2, .t 144], none, 0, 0⟩, ⟨.no, .e (.store 1), [.l 3, .c (.bool false)], none, 0, 0⟩])
 .ret)
 .skip))))))
 (.reg [⟨.t 145, .p (.bin .add), [.l 110, .c (.int .i64 1)], none, 0, 0⟩, ⟨.l 110, .p (.mv), [.t 145], none, 0, 0⟩]))))))))))))))
 (.seq (.reg [⟨.t 146, .r (.load true 4), [.l 8], none, 0, 0⟩, ⟨.no, .e (.store 4), [.l 2, .t 146], none, 0, 0⟩, ⟨.no, .e (.store 1), [.l 3, .c (.bool true)], none, 0, 0⟩])
 .ret))))))),
 [.cell (.l 2) true 4, .cell (.l 3) false 1]⟩
theorem cf381_ok : compF TP Tryz.f381 = some cf381 := by kernel_rfl
def cf382 : CF := ⟨2, (.seq (.reg [⟨.l 2, .a (.box), [.l 0], none, 0, 0⟩, ⟨.l 3, .a (.box), [.l 1], none, 0, 0⟩, ⟨.l 4, .a (.alloc [(.bool false)]), [], none, 0, 0⟩])
 (.seq (.reg [⟨.t 17, .a (.mkm false), [], none, 0, 0⟩, ⟨.l 5, .a (.alloc [.nilm]), [], none, 0, 0⟩, ⟨.no, .e (.store 1), [.l 5, .t 17], none, 0, 0⟩])
 (.seq (.reg [⟨.l 6, .a (.alloc [.nilf]), [], none, 0, 0⟩])
 (.seq (.reg [⟨.t 18, .p (.mkf (.func 431) 0), [.l 3, .l 5, .l 6], none, 0, 0⟩, ⟨.no, .e (.store 1), [.l 6, .t 18], none, 0, 0⟩])
 (.seq (.seq (.reg [⟨.t 19, .r (.load false 1), [.l 3], none, 0, 0⟩, ⟨.l 20, .call 429, [.t 19], none, 0, 0⟩])
 (.block 0 (.rangeF (.l 20) [.l 21] (.reg [⟨.l 7, .p (.mv), [.l 21], none, 0, 0⟩]) (.block 1 (.seq (.reg [⟨.t 23, .r (.load false 1), [.l 3], none, 0, 0⟩, ⟨.t 24, .p (.mv), [.l 7], none, 0, 0⟩, ⟨.t 25, .call 105, [.t 23, .t 24], none, 0, 0⟩, ⟨.t 22, .p (.mv), [.t 25], none, 0, 0⟩, ⟨.t 26, .p (.ext 0), [.t 22], none, 0, 0⟩, ⟨.t 27, .p (.ext 1), [.t 22], none, 0, 0⟩, ⟨.t 28, .p (.ext 2), [.t 22], none, 0, 0⟩, ⟨.l 8, .p (.mv), [.t 26], none, 0, 0⟩, ⟨.l 9, .p (.mv), [.t 27], none, 0, 0⟩, ⟨.t 10, .p (.mv), [.t 28], none, 0, 0⟩])
 (.seq (.seq (.reg [⟨.t 29, .p (.mv), [.l 8], none, 0, 0⟩, ⟨.l 30, .p (.bin .eql), [.t 29, .c (.int .i64 8)], none, 0, 0⟩])
 (.cond (.l 30) (.seq (.regD [⟨.t 32, .r (.load false 1), [.l 2], none, 0, 1⟩, ⟨.t 33, .p (.nilc), [.t 32], none, 0, 1⟩, ⟨.t 34, .p (.fa 7), [.t 33], none, 0, 1⟩, ⟨.t 35, .r (.load false 1), [.t 34], none, 0, 1⟩, ⟨.t 36, .p (.mv), [.l 9], none, 0, 0⟩, ⟨.t 37, .p (.ixsl 1), [.t 36, .c (.int .i64 0)], none, 0, 0⟩, ⟨.t 38, .r (.load false 1), [.t 37], none, 0, 0⟩, ⟨.t 39, .call 205, [.t 38], none, 0, 1⟩, ⟨.t 40, .call 291, [.t 35, .t 39], none, 1, 2⟩, ⟨.t 31, .p (.mv), [.t 40], none, 2, 2⟩, ⟨.t 41, .p (.ext 0), [.t 31], none, 2, 2⟩, ⟨.t 42, .p (.ext 1), [.t 31], none, 2, 2⟩, ⟨.l 11, .p (.mv), [.t 41], none, 2, 2⟩, ⟨.l 12, .p (.mv), [.t 42], none, 2, 2⟩])
 (.seq (.regD [⟨.t 43, .p (.mv), [.l 12], none, 0, 0⟩, ⟨.t 44, .p (.un .not), [.t 43], none, 0, 0⟩, ⟨.t 45, .p (.mv), [.t 44], none, 0, 0⟩, ⟨.t 46, .p (.mv), [.l 9], (some (.t 45, false)), 0, 0⟩, ⟨.t 47, .p (.ixsl 1), [.t 46, .c (.int .i64 1)], (some (.t 45, false)), 0, 0⟩, ⟨.t 48, .r (.load false 1), [.t 47], (some (.t 45, false)), 0, 0⟩, ⟨.t 50, .p (.mv), [.l 9], (some (.t 45, false)), 0, 1⟩, ⟨.t 51, .p (.ixsl 1), [.t 50, .c (.int .i64 2)], (some (.t 45, false)), 0, 1⟩, ⟨.t 52, .r (.load false 1), [.t 51], (some (.t 45, false)), 0, 1⟩, ⟨.t 55, .p (.mv), [.l 11], (some (.t 45, false)), 0, 2⟩, ⟨.t 56, .p (.leng .str), [.t 55], (some (.t 45, false)), 0, 2⟩, ⟨.t 57, .p (.bin .mul), [.c (.int .i64 8), .t 56], (some (.t 45, false)), 0, 2⟩, ⟨.t 49, .call 205, [.t 48], (some (.t 45, false)), 0, 1⟩, ⟨.t 53, .call 205, [.t 52], (some (.t 45, false)), 1, 2⟩, ⟨.t 54, .p (.bin .add), [.t 49, .t 53], (some (.t 45, false)), 2, 2⟩, ⟨.t 58, .p (.bin .gtr), [.t 54, .t 57], (some (.t 45, false)), 2, 2⟩, ⟨.l 59, .p (.pick), [.t 45, .c (.bool true), .t 58], none, 2, 2⟩])
 (.cond (.l 59) (.seq (.reg [⟨.no, .e (.store 1), [.l 4, .c (.bool false)], none, 0, 0⟩])
 .ret)
 .skip)))
 .skip))
 (.seq (.seq (.reg [⟨.l 60, .p (.mv), [.l 9], none, 0, 0⟩, ⟨.l 61, .p (.leng .sl), [.l 60], none, 0, 0⟩, ⟨.l 62, .p (.mv), [.c (.int .i64 0)], none, 0, 0⟩])
 (.block 2 (.loop (.seq (.reg [⟨.l 63, .p (.bin .lss), [.l 62, .l 61], none, 0, 0⟩])
 (.seq (.cond (.l 63) .skip
 (.exit 2))
 (.seq (.block 3 (.seq (.reg [⟨.t 64, .p (.ixsl 1), [.l 60, .l 62], none, 0, 0⟩, ⟨.t 65, .r (.load false 1), [.t 64], none, 0, 0⟩, ⟨.l 14, .p (.mv), [.t 65], none, 0, 0⟩])
 (.seq (.reg [⟨.t 67, .p (.mv), [.l 14], none, 0, 0⟩, ⟨.t 68, .call 157, [.t 67], none, 0, 0⟩, ⟨.t 66, .p (.mv), [.t 68], none, 0, 0⟩, ⟨.t 69, .p (.ext 0), [.t 66], none, 0, 0⟩, ⟨.t 70, .p (.ext 1), [.t 66], none, 0, 0⟩, ⟨.l 15, .p (.mv), [.t 69], none, 0, 0⟩, ⟨.l 16, .p (.mv), [.t 70], none, 0, 0⟩])
 (.seq (.reg [⟨.t 71, .p (.mv), [.l 16], none, 0, 0⟩, ⟨.t 72, .p (.mv), [.t 71], none, 0, 0⟩, ⟨.t 73, .p (.mv), [.l 8], (some (.t 72, true)), 0, 0⟩, ⟨.t 74, .p (.bin .neq), [.t 73, .c (.int .i64 6)], (some (.t 72, true)), 0, 0⟩, ⟨.t 75, .p (.pick), [.t 72, .t 74, .c (.bool false)], none, 0, 0⟩, ⟨.t 76, .p (.mv), [.t 75], none, 0, 0⟩, ⟨.t 77, .p (.mv), [.l 8], (some (.t 76, true)), 0, 0⟩, ⟨.t 78, .p (.bin .neq), [.t 77, .c (.int .i64 7)], (some (.t 76, true)), 0, 0⟩, ⟨.t 79, .p (.pick), [.t 76, .t 78, .c (.bool false)], none, 0, 0⟩, ⟨.t 80, .p (.mv), [.t 79], none, 0, 0⟩, ⟨.t 81, .p (.mv), [.l 15], (some (.t 80, true)), 0, 0⟩, ⟨.t 82, .r (.load false 1), [.l 2], (some (.t 80, true)), 0, 0⟩, ⟨.t 83, .p (.nilc), [.t 82], (some (.t 80, true)), 0, 0⟩, ⟨.t 84, .p (.fa 6), [.t 83], (some (.t 80, true)), 0, 0⟩, ⟨.t 85, .r (.load false 1), [.t 84], (some (.t 80, true)), 0, 0⟩, ⟨.t 86, .call 231, [.t 85], (some (.t 80, true)), 0, 0⟩, ⟨.t 87, .p (.bin .geq), [.t 81, .t 86], (some (.t 80, true)), 0, 0⟩, ⟨.l 88, .p (.pick), [.t 80, .t 87, .c (.bool false)], none, 0, 0⟩])
 (.cond (.l 88) (.seq (.reg [⟨.no, .e (.store 1), [.l 4, .c (.bool false)], none, 0, 0⟩])
 .ret)
 .skip)))))
 (.reg [⟨.t 89, .p (.bin .add), [.l 62, .c (.int .i64 1)], none, 0, 0⟩, ⟨.l 62, .p (.mv), [.t 89], none, 0, 0⟩])))))))
 (.seq (.reg [⟨.t 90, .r (.load false 1), [.l 6], none, 0, 0⟩, ⟨.t 91, .p (.mv), [.l 7], none, 0, 0⟩, ⟨.t 92, .callv, [.t 90, .t 91], none, 0, 0⟩, ⟨.l 93, .p (.bin .gtr), [.t 92, .c (.int .i64 2000)], none, 0, 0⟩])
 (.cond (.l 93) (.seq (.reg [⟨.no, .e (.store 1), [.l 4, .c (.bool false)], none, 0, 0⟩])
 .ret)
 .skip)))))))))
 (.seq (.reg [⟨.no, .e (.store 1), [.l 4, .c (.bool true)], none, 0, 0⟩])
 .ret)))))),
 [.cell (.l 4) false 1]⟩
theorem cf382_ok : compF TP Tryz.f382 = some cf382 := by kernel_rfl
def cf383 : CF := ⟨1, (.seq (.reg [⟨.l 1, .a (.box), [.l 0], none, 0, 0⟩, ⟨.l 2, .p (.mv), [.c .nils], none, 0, 0⟩])
 (.seq (.reg [⟨.l 3, .a (.alloc [.nils]), [], none, 0, 0⟩])
 (.seq (.seq (.reg [⟨.t 8, .r (.load false 1), [.l 1], none, 0, 0⟩, ⟨.l 9, .call 429, [.t 8], none, 0, 0⟩])
 (.block 0 (.rangeF (.l 9) [.l 10] (.reg [⟨.l 4, .p (.mv), [.l 10], none, 0, 0⟩]) (.block 1 (.seq (.reg [⟨.t 12, .r (.load false 1), [.l 1], none, 0, 0⟩, ⟨.t 13, .p (.mv), [.l 4], none, 0, 0⟩, ⟨.t 14, .call 105, [.t 12, .t 13], none, 0, 0⟩, ⟨.t 11, .p (.mv), [.t 14], none, 0, 0⟩, ⟨.t 15, .p (.ext 0), [.t 11], none, 0, 0⟩, ⟨.t 16, .p (.ext 1), [.t 11], none, 0, 0⟩, ⟨.t 17, .p (.ext 2), [.t 11], none, 0, 0⟩, ⟨.l 5, .p (.mv), [.t 15], none, 0, 0⟩, ⟨.l 6, .p (.mv), [.t 16], none, 0, 0⟩, ⟨.t 7, .p (.mv), [.t 17], none, 0, 0⟩])
 (.seq (.reg [⟨.t 18, .p (.mv), [.l 5], none, 0, 0⟩, ⟨.l 19, .p (.bin .eql), [.t 18, .c (.int .i64 8)], none, 0, 0⟩])
 (.cond (.l 19) (.regD [⟨.t 20, .r (.load false 1), [.l 3], none, 0, 1⟩, ⟨.t 21, .p (.mv), [.l 6], none, 0, 0⟩, ⟨.t 22, .p (.ixsl 1), [.t 21, .c (.int .i64 0)], none, 0, 0⟩, ⟨.t 23, .r (.load false 1), [.t 22], none, 0, 0⟩, ⟨.t 24, .call 205, [.t 23], none, 0, 1⟩, ⟨.t 25, .a (.bslice [(.int .i64 0)] 1 1 [(0, 1)]), [.t 24], none, 1, 1⟩, ⟨.t 26, .e (.append 1 8 none), [.t 20, .t 25], none, 1, 2⟩, ⟨.no, .e (.store 1), [.l 3, .t 26], none, 2, 3⟩])
 .skip)))))))
 (.seq (.reg [⟨.t 27, .r (.load false 1), [.l 3], none, 0, 0⟩, ⟨.l 2, .p (.mv), [.t 27], none, 0, 0⟩])
 .ret)))),
 [.tmp (.l 2)]⟩
theorem cf383_ok : compF TP Tryz.f383 = some cf383 := by kernel_rfl
def cf384 : CF := ⟨1, (.seq (.reg [⟨.t 4, .p (.mv), [.l 0], none, 0, 0⟩, ⟨.t 5, .p (.nilc), [.t 4], none, 0, 0⟩, ⟨.t 6, .p (.fa 0), [.t 5], none, 0, 0⟩, ⟨.l 7, .call 383, [.t 6], none, 0, 0⟩, ⟨.l 8, .p (.leng .sl), [.l 7], none, 0, 0⟩, ⟨.l 9, .p (.mv), [.c (.int .i64 0)], none, 0, 0⟩])
 (.block 0 (.loop (.seq (.reg [⟨.l 10, .p (.bin .lss), [.l 9, .l 8], none, 0, 0⟩])
 (.seq (.cond (.l 10) .skip
 (.exit 0))
 (.seq (.block 1 (.seq (.reg [⟨.t 11, .p (.ixsl 1), [.l 7, .l 9], none, 0, 0⟩, ⟨.t 12, .r (.load false 1), [.t 11], none, 0, 0⟩, ⟨.l 3, .p (.mv), [.t 12], none, 0, 0⟩])
 (.reg [⟨.t 13, .p (.mv), [.l 0], none, 0, 0⟩, ⟨.t 14, .p (.nilc), [.t 13], none, 0, 0⟩, ⟨.t 15, .p (.fa 7), [.t 14], none, 0, 0⟩, ⟨.t 16, .r (.load false 1), [.t 15], none, 0, 0⟩, ⟨.t 17, .p (.mv), [.l 3], none, 0, 0⟩, ⟨.t 18, .call 432, [.t 16, .t 17], none, 0, 0⟩])))
 (.reg [⟨.t 19, .p (.bin .add), [.l 9, .c (.int .i64 1)], none, 0, 0⟩, ⟨.l 9, .p (.mv), [.t 19], none, 0, 0⟩]))))))),
 []⟩
theorem cf384_ok : compF TP Tryz.f384 = some cf384 := by kernel_rfl
def cf388 : CF := ⟨3, (.seq (.reg [⟨.t 8, .p (.mv), [.l 1], none, 0, 0⟩, ⟨.t 9, .p (.bin .add), [.t 8, .c (.int .i64 1)], none, 0, 0⟩, ⟨.l 6, .p (.mv), [.t 9], none, 0, 0⟩])
 (.block 0 (.loop (.seq (.seq (.reg [⟨.t 10, .p (.mv), [.l 6], none, 0, 0⟩, ⟨.t 11, .p (.mv), [.l 2], none, 0, 0⟩, ⟨.l 12, .p (.bin .lss), [.t 10, .t 11], none, 0, 0⟩])
 (.cond (.l 12) .skip
 (.exit 0)))
 (.seq (.block 1 (.seq (.reg [⟨.t 15, .p (.mv), [.l 6], none, 0, 0⟩, ⟨.l 7, .p (.mv), [.t 15], none, 0, 0⟩])
 (.block 2 (.loop (.seq (.seq (.regD [⟨.t 16, .p (.mv), [.l 7], none, 0, 0⟩, ⟨.t 17, .p (.mv), [.l 1], none, 0, 0⟩, ⟨.t 18, .p (.bin .gtr), [.t 16, .t 17], none, 0, 0⟩, ⟨.t 19, .p (.mv), [.t 18], none, 0, 0⟩, ⟨.t 20, .p (.mv), [.l 0], (some (.t 19, true)), 0, 0⟩, ⟨.t 21, .p (.mv), [.l 7], (some (.t 19, true)), 0, 0⟩, ⟨.t 22, .p (.ixsl 1), [.t 20, .t 21], (some (.t 19, true)), 0, 0⟩, ⟨.t 23, .r (.load false 1), [.t 22], (some (.t 19, true)), 0, 0⟩, ⟨.t 24, .p (.mv), [.l 0], (some (.t 19, true)), 0, 0⟩, ⟨.t 25, .p (.mv), [.l 7], (some (.t 19, true)), 0, 0⟩, ⟨.t 26, .p (.bin .sub), [.t 25, .c (.int .i64 1)], (some (.t 19, true)), 0, 0⟩, ⟨.t 27, .p (.ixsl 1), [.t 24, .t 26], (some (.t 19, true)), 0, 0⟩, ⟨.t 28, .r (.load false 1), [.t 27], (some (.t 19, true)), 0, 0⟩, ⟨.t 29, .call 394, [.t 23, .t 28], (some (.t 19, true)), 0, 1⟩, ⟨.l 30, .p (.pick), [.t 19, .t 29, .c (.bool false)], none, 1, 1⟩])
 (.cond (.l 30) .skip
 (.exit 2)))
 (.seq (.block 3 (.regD [⟨.t 33, .p (.mv), [.l 0], none, 0, 0⟩, ⟨.t 34, .p (.mv), [.l 7], none, 0, 0⟩, ⟨.t 35, .p (.mv), [.l 0], none, 0, 1⟩, ⟨.t 36, .p (.mv), [.l 7], none, 0, 1⟩, ⟨.t 37, .p (.bin .sub), [.t 36, .c (.int .i64 1)], none, 0, 1⟩, ⟨.t 38, .p (.mv), [.l 0], none, 0, 0⟩, ⟨.t 39, .p (.mv), [.l 7], none, 0, 0⟩, ⟨.t 40, .p (.bin .sub), [.t 39, .c (.int .i64 1)], none, 0, 0⟩, ⟨.t 41, .p (.ixsl 1), [.t 38, .t 40], none, 0, 0⟩, ⟨.t 42, .r (.load false 1), [.t 41], none, 0, 0⟩, ⟨.t 43, .p (.mv), [.l 0], none, 0, 0⟩, ⟨.t 44, .p (.mv), [.l 7], none, 0, 0⟩, ⟨.t 45, .p (.ixsl 1), [.t 43, .t 44], none, 0, 0⟩, ⟨.t 46, .r (.load false 1), [.t 45], none, 0, 0⟩, ⟨.t 47, .p (.ixsl 1), [.t 33, .t 34], none, 0, 0⟩, ⟨.no, .e (.store 1), [.t 47, .t 42], none, 0, 1⟩, ⟨.t 48, .p (.ixsl 1), [.t 35, .t 37], none, 1, 1⟩, ⟨.no, .e (.store 1), [.t 48, .t 46], none, 1, 2⟩]))
 (.reg [⟨.t 31, .p (.mv), [.l 7], none, 0, 0⟩, ⟨.t 32, .p (.bin .sub), [.t 31, .c (.int .i64 1)], none, 0, 0⟩, ⟨.l 7, .p (.mv), [.t 32], none, 0, 0⟩])))))))
 (.reg [⟨.t 13, .p (.mv), [.l 6], none, 0, 0⟩, ⟨.t 14, .p (.bin .add), [.t 13, .c (.int .i64 1)], none, 0, 0⟩, ⟨.l 6, .p (.mv), [.t 14], none, 0, 0⟩])))))),
 []⟩
theorem cf388_ok : compF TP Tryz.f388 = some cf388 := by kernel_rfl
def cf394 : CF := ⟨2, (.seq (.reg [⟨.l 4, .p (.mv), [.c (.bool false)], none, 0, 0⟩])
 (.seq (.reg [⟨.t 5, .p (.mv), [.l 0], none, 0, 0⟩, ⟨.t 6, .call 317, [.t 5], none, 0, 0⟩, ⟨.t 7, .p (.mv), [.t 6], none, 0, 0⟩, ⟨.t 8, .p (.mv), [.l 1], (some (.t 7, true)), 0, 0⟩, ⟨.t 9, .call 317, [.t 8], (some (.t 7, true)), 0, 0⟩, ⟨.t 10, .p (.un .not), [.t 9], (some (.t 7, true)), 0, 0⟩, ⟨.t 11, .p (.pick), [.t 7, .t 10, .c (.bool false)], none, 0, 0⟩, ⟨.t 12, .p (.mv), [.t 11], none, 0, 0⟩, ⟨.t 13, .p (.mv), [.l 0], (some (.t 12, false)), 0, 0⟩, ⟨.t 14, .p (.mv), [.l 1], (some (.t 12, false)), 0, 0⟩, ⟨.t 15, .p (.bin .lss), [.t 13, .t 14], (some (.t 12, false)), 0, 0⟩, ⟨.t 16, .p (.pick), [.t 12, .c (.bool true), .t 15], none, 0, 0⟩, ⟨.l 4, .p (.mv), [.t 16], none, 0, 0⟩])
 .ret)),
 [.tmp (.l 4)]⟩
theorem cf394_ok : compF TP Tryz.f394 = some cf394 := by kernel_rfl
def cf398 : CF := ⟨1, (.seq (.reg [⟨.l 2, .p (.mv), [.c (.int .i64 0)], none, 0, 0⟩])
 (.seq (.seq (.reg [⟨.t 3, .p (.mv), [.l 0], none, 0, 0⟩, ⟨.l 4, .p (.bin .geq), [.t 3, .c (.int .u64 4294967296)], none, 0, 0⟩])
 (.cond (.l 4) (.seq (.reg [⟨.t 5, .p (.mv), [.l 0], none, 0, 0⟩, ⟨.t 6, .p (.bin .shr), [.t 5, .c (.int .u64 32)], none, 0, 0⟩, ⟨.l 0, .p (.mv), [.t 6], none, 0, 0⟩])
 (.reg [⟨.l 2, .p (.mv), [.c (.int .i64 32)], none, 0, 0⟩]))
 .skip))
 (.seq (.seq (.reg [⟨.t 7, .p (.mv), [.l 0], none, 0, 0⟩, ⟨.l 8, .p (.bin .geq), [.t 7, .c (.int .u64 65536)], none, 0, 0⟩])
 (.cond (.l 8) (.seq (.reg [⟨.t 9, .p (.mv), [.l 0], none, 0, 0⟩, ⟨.t 10, .p (.bin .shr), [.t 9, .c (.int .u64 16)], none, 0, 0⟩, ⟨.l 0, .p (.mv), [.t 10], none, 0, 0⟩])
 (.reg [⟨.t 11, .p (.mv), [.l 2], none, 0, 0⟩, ⟨.t 12, .p (.bin .add), [.t 11, .c (.int .i64 16)], none, 0, 0⟩, ⟨.l 2, .p (.mv), [.t 12], none, 0, 0⟩]))
 .skip))
 (.seq (.seq (.reg [⟨.t 13, .p (.mv), [.l 0], none, 0, 0⟩, ⟨.l 14, .p (.bin .geq), [.t 13, .c (.int .u64 256)], none, 0, 0⟩])
 (.cond (.l 14) (.seq (.reg [⟨.t 15, .p (.mv), [.l 0], none, 0, 0⟩, ⟨.t 16, .p (.bin .shr), [.t 15, .c (.int .u64 8)], none, 0, 0⟩, ⟨.l 0, .p (.mv), [.t 16], none, 0, 0⟩])
 (.reg [⟨.t 17, .p (.mv), [.l 2], none, 0, 0⟩, ⟨.t 18, .p (.bin .add), [.t 17, .c (.int .i64 8)], none, 0, 0⟩, ⟨.l 2, .p (.mv), [.t 18], none, 0, 0⟩]))
 .skip))
 (.seq (.reg [⟨.t 19, .p (.mv), [.l 2], none, 0, 0⟩, ⟨.t 20, .p (.mv), [.l 0], none, 0, 0⟩, ⟨.t 21, .p (.toInt .u8), [.t 20], none, 0, 0⟩, ⟨.t 22, .p (.ixstr), [.c (.str 256 1013866857139168856493015739252390649739422828853819106890363778118420553376247557433637691341895324351018602695588957474325319502760499485336098898398377509666851054660423406800006203933793007272033180812049178612605246075062580585469430410618860250057463399279570354286669047577758927328864388992123306212451509403152394148136105363817402562688186708175358218852349079190158732807302672745370040257219644697201681238697346923541678507645485296520536209706771857694240900605172937619415410180424934769249448772944216470541052485265558808433676546390051204254346932932316488017972311616136051587427851453983453479168), .t 21], none, 0, 0⟩, ⟨.t 23, .p (.toInt .i64), [.t 22], none, 0, 0⟩, ⟨.t 24, .p (.bin .add), [.t 19, .t 23], none, 0, 0⟩, ⟨.l 2, .p (.mv), [.t 24], none, 0, 0⟩])
 .ret))))),
 [.tmp (.l 2)]⟩
theorem cf398_ok : compF TP Tryz.f398 = some cf398 := by kernel_rfl
def cf401 : CF := ⟨2, (.seq (.reg [⟨.l 2, .a (.box), [.l 0], none, 0, 0⟩, ⟨.l 3, .a (.alloc [(.int .i64 0), (.int .i64 0), (.int .i64 0), (.str 0 0), (.str 0 0), (.int .i64 0), .nils, (.str 0 0), (.int .i64 0)]), [], none, 0, 0⟩, ⟨.l 4, .a (.alloc [(.str 0 0), (.int .i64 0), (.int .i64 0), (.int .i64 0), (.str 0 0), (.str 0 0), (.int .i64 0), .nils, (.str 0 0), (.int .i64 0)]), [], none, 0, 0⟩])
 (.seq (.reg [⟨.t 9, .r (.load true 10), [.l 2], none, 0, 0⟩, ⟨.t 10, .call 402, [.t 9], none, 0, 0⟩, ⟨.t 8, .p (.mv), [.t 10], none, 0, 0⟩, ⟨.t 11, .p (.ext 0), [.t 8], none, 0, 0⟩, ⟨.t 12, .p (.ext 1), [.t 8], none, 0, 0⟩, ⟨.t 13, .p (.ext 2), [.t 8], none, 0, 0⟩, ⟨.l 5, .p (.mv), [.t 11], none, 0, 0⟩, ⟨.l 6, .p (.mv), [.t 12], none, 0, 0⟩, ⟨.l 7, .p (.mv), [.t 13], none, 0, 0⟩])
 (.seq (.seq (.reg [⟨.t 14, .p (.mv), [.l 7], none, 0, 0⟩, ⟨.l 15, .p (.un .not), [.t 14], none, 0, 0⟩])
 (.cond (.l 15) (.seq (.reg [⟨.t 16, .call 222, [.c (.str 8 7526756817224098146)], none, 0, 0⟩, ⟨.t 17, .p (.ext 0), [.t 16], none, 0, 0⟩, ⟨.t 18, .p (.ext 1), [.t 16], none, 0, 0⟩, ⟨.no, .e (.store 9), [.l 3, .t 17], none, 0, 0⟩, ⟨.no, .e (.store 10), [.l 4, .t 18], none, 0, 0⟩])
 .ret)
 .skip))
 (.seq (.reg [⟨.t 19, .r (.load false 1), [.l 1], none, 0, 0⟩, ⟨.t 20, .p (.mv), [.l 5], none, 0, 0⟩, ⟨.t 21, .p (.mv), [.l 6], none, 0, 0⟩, ⟨.t 22, .callv, [.t 19, .t 20, .t 21], none, 0, 0⟩, ⟨.t 23, .p (.ext 0), [.t 22], none, 0, 0⟩, ⟨.t 24, .p (.ext 1), [.t 22], none, 0, 0⟩, ⟨.t 25, .call 403, [.t 23, .t 24], none, 0, 0⟩, ⟨.t 26, .p (.ext 0), [.t 25], none, 0, 0⟩, ⟨.t 27, .p (.ext 1), [.t 25], none, 0, 0⟩, ⟨.no, .e (.store 9), [.l 3, .t 26], none, 0, 0⟩, ⟨.no, .e (.store 10), [.l 4, .t 27], none, 0, 0⟩])
 .ret)))),
 [.cell (.l 3) true 9, .cell (.l 4) true 10]⟩
theorem cf401_ok : compF TP Tryz.f401 = some cf401 := by kernel_rfl
def cf402 : CF := ⟨1, (.seq (.reg [⟨.l 1, .a (.box), [.l 0], none, 0, 0⟩, ⟨.l 2, .p (.mv), [.c (.int .i64 0)], none, 0, 0⟩, ⟨.l 3, .p (.mv), [.c (.int .i64 0)], none, 0, 0⟩, ⟨.l 4, .p (.mv), [.c (.bool false)], none, 0, 0⟩])
 (.seq (.seq (.reg [⟨.t 7, .p (.fa 9), [.l 1], none, 0, 0⟩, ⟨.l 8, .r (.load false 1), [.t 7], none, 0, 0⟩, ⟨.l 9, .p (.leng .sl), [.l 8], none, 0, 0⟩, ⟨.l 10, .p (.mv), [.c (.int .i64 0)], none, 0, 0⟩])
 (.block 0 (.loop (.seq (.reg [⟨.l 11, .p (.bin .lss), [.l 10, .l 9], none, 0, 0⟩])
 (.seq (.cond (.l 11) .skip
 (.exit 0))
 (.seq (.block 1 (.seq (.reg [⟨.t 12, .p (.mv), [.l 10], none, 0, 0⟩, ⟨.t 13, .p (.ixsl 9), [.l 8, .l 10], none, 0, 0⟩, ⟨.t 14, .r (.load true 9), [.t 13], none, 0, 0⟩, ⟨.l 6, .a (.alloc [(.int .i64 0), (.int .i64 0), (.int .i64 0), (.str 0 0), (.str 0 0), (.int .i64 0), .nils, (.str 0 0), (.int .i64 0)]), [], none, 0, 0⟩, ⟨.l 5, .p (.mv), [.t 12], none, 0, 0⟩, ⟨.no, .e (.store 9), [.l 6, .t 14], none, 0, 0⟩])
 (.seq (.seq (.reg [⟨.t 15, .p (.fa 0), [.l 6], none, 0, 0⟩, ⟨.t 16, .r (.load false 1), [.t 15], none, 0, 0⟩, ⟨.l 17, .p (.bin .neq), [.t 16, .c (.int .i64 1)], none, 0, 0⟩])
 (.cond (.l 17) (.seq (.reg [⟨.l 2, .p (.mv), [.c (.int .i64 0)], none, 0, 0⟩, ⟨.l 3, .p (.mv), [.c (.int .i64 0)], none, 0, 0⟩, ⟨.l 4, .p (.mv), [.c (.bool false)], none, 0, 0⟩])
 .ret)
 .skip))
 (.seq (.seq (.reg [⟨.t 18, .p (.mv), [.l 5], none, 0, 0⟩, ⟨.l 19, .p (.bin .eql), [.t 18, .c (.int .i64 0)], none, 0, 0⟩])
 (.cond (.l 19) (.reg [⟨.t 20, .p (.fa 1), [.l 6], none, 0, 0⟩, ⟨.t 21, .r (.load false 1), [.t 20], none, 0, 0⟩, ⟨.l 2, .p (.mv), [.t 21], none, 0, 0⟩])
 .skip))
 (.reg [⟨.t 22, .p (.fa 1), [.l 6], none, 0, 0⟩, ⟨.t 23, .r (.load false 1), [.t 22], none, 0, 0⟩, ⟨.l 3, .p (.mv), [.t 23], none, 0, 0⟩])))))
 (.reg [⟨.t 24, .p (.bin .add), [.l 10, .c (.int .i64 1)], none, 0, 0⟩, ⟨.l 10, .p (.mv), [.t 24], none, 0, 0⟩])))))))
 (.seq (.reg [⟨.t 25, .p (.mv), [.l 2], none, 0, 0⟩, ⟨.t 26, .p (.mv), [.l 3], none, 0, 0⟩, ⟨.l 2, .p (.mv), [.t 25], none, 0, 0⟩, ⟨.l 3, .p (.mv), [.t 26], none, 0, 0⟩, ⟨.l 4, .p (.mv), [.c (.bool true)], none, 0, 0⟩])
 .ret))),
 [.tmp (.l 2), .tmp (.l 3), .tmp (.l 4)]⟩
theorem cf402_ok : compF TP Tryz.f402 = some cf402 := by kernel_rfl
def cf403 : CF := ⟨2, (.seq (.reg [⟨.l 4, .a (.alloc [(.int .i64 0), (.int .i64 0), (.int .i64 0), (.str 0 0), (.str 0 0), (.int .i64 0), .nils, (.str 0 0), (.int .i64 0)]), [], none, 0, 0⟩, ⟨.l 5, .a (.alloc [(.str 0 0), (.int .i64 0), (.int .i64 0), (.int .i64 0), (.str 0 0), (.str 0 0), (.int .i64 0), .nils, (.str 0 0), (.int .i64 0)]), [], none, 0, 0⟩])
 (.seq (.seq (.reg [⟨.l 6, .p (.mv), [.l 1], none, 0, 0⟩])
 (.block 0 (.seq (.reg [⟨.t 8, .p (.bin .eql), [.l 6, .c (.int .i64 0)], none, 0, 0⟩, ⟨.l 7, .p (.mv), [.t 8], none, 0, 0⟩])
 (.cond (.l 7) (.seq (.reg [⟨.t 9, .p (.mv), [.l 0], none, 0, 0⟩, ⟨.t 10, .call 147, [.t 9], none, 0, 0⟩, ⟨.t 11, .call 224, [.t 10], none, 0, 0⟩, ⟨.t 12, .p (.ext 0), [.t 11], none, 0, 0⟩, ⟨.t 13, .p (.ext 1), [.t 11], none, 0, 0⟩, ⟨.no, .e (.store 9), [.l 4, .t 12], none, 0, 0⟩, ⟨.no, .e (.store 10), [.l 5, .t 13], none, 0, 0⟩])
 .ret)
 (.seq (.reg [⟨.t 15, .p (.bin .eql), [.l 6, .c (.int .i64 7)], none, 0, 0⟩, ⟨.l 14, .p (.mv), [.t 15], none, 0, 0⟩])
 (.cond (.l 14) (.seq (.reg [⟨.t 16, .call 222, [.c (.str 12 36027715032999405127646542195)], none, 0, 0⟩, ⟨.t 17, .p (.ext 0), [.t 16], none, 0, 0⟩, ⟨.t 18, .p (.ext 1), [.t 16], none, 0, 0⟩, ⟨.no, .e (.store 9), [.l 4, .t 17], none, 0, 0⟩, ⟨.no, .e (.store 10), [.l 5, .t 18], none, 0, 0⟩])
 .ret)
 .skip))))))
 (.seq (.reg [⟨.t 19, .call 222, [.c (.str 8 7526756817224098146)], none, 0, 0⟩, ⟨.t 20, .p (.ext 0), [.t 19], none, 0, 0⟩, ⟨.t 21, .p (.ext 1), [.t 19], none, 0, 0⟩, ⟨.no, .e (.store 9), [.l 4, .t 20], none, 0, 0⟩, ⟨.no, .e (.store 10), [.l 5, .t 21], none, 0, 0⟩])
 .ret))),
 [.cell (.l 4) true 9, .cell (.l 5) true 10]⟩
theorem cf403_ok : compF TP Tryz.f403 = some cf403 := by kernel_rfl
def cf405 : CF := ⟨3, (.seq (.reg [⟨.l 3, .p (.mv), [.c (.bool false)], none, 0, 0⟩])
 (.seq (.reg [⟨.t 4, .r (.load false 1), [.l 0], none, 0, 0⟩, ⟨.t 5, .p (.bin .lss), [.t 4, .c (.int .i64 0)], none, 0, 0⟩, ⟨.t 6, .r (.load false 1), [.l 1], none, 0, 0⟩, ⟨.t 7, .p (.bin .lss), [.t 6, .c (.int .i64 0)], none, 0, 0⟩, ⟨.t 8, .p (.eqd .b true), [.t 5, .t 7], none, 0, 0⟩, ⟨.t 9, .p (.mv), [.t 8], none, 0, 0⟩, ⟨.t 10, .r (.load false 1), [.l 2], (some (.t 9, true)), 0, 0⟩, ⟨.t 11, .p (.bin .lss), [.t 10, .c (.int .i64 0)], (some (.t 9, true)), 0, 0⟩, ⟨.t 12, .r (.load false 1), [.l 0], (some (.t 9, true)), 0, 0⟩, ⟨.t 13, .p (.bin .lss), [.t 12, .c (.int .i64 0)], (some (.t 9, true)), 0, 0⟩, ⟨.t 14, .p (.eqd .b true), [.t 11, .t 13], (some (.t 9, true)), 0, 0⟩, ⟨.t 15, .p (.pick), [.t 9, .t 14, .c (.bool false)], none, 0, 0⟩, ⟨.l 3, .p (.mv), [.t 15], none, 0, 0⟩])
 .ret)),
 [.tmp (.l 3)]⟩
theorem cf405_ok : compF TP Tryz.f405 = some cf405 := by kernel_rfl
def cf425 : CF := ⟨2, (.seq (.reg [⟨.l 2, .a (.box), [.l 0], none, 0, 0⟩, ⟨.l 4, .p (.mv), [.c (.bool false)], none, 0, 0⟩])
 (.seq (.seq (.reg [⟨.t 7, .r (.load true 3), [.l 2], none, 0, 0⟩, ⟨.t 8, .call 448, [.t 7], none, 0, 0⟩, ⟨.l 9, .p (.un .not), [.t 8], none, 0, 0⟩])
 (.cond (.l 9) (.seq (.reg [⟨.l 4, .p (.mv), [.c (.bool false)], none, 0, 0⟩])
 .ret)
 .skip))
 (.seq (.regD [⟨.t 10, .p (.fa 0), [.l 2], none, 0, 0⟩, ⟨.t 11, .r (.load false 1), [.t 10], none, 0, 0⟩, ⟨.t 13, .p (.fa 1), [.l 2], none, 0, 1⟩, ⟨.t 14, .r (.load false 1), [.t 13], none, 0, 1⟩, ⟨.l 5, .a (.alloc [.nils]), [], none, 0, 2⟩, ⟨.l 6, .a (.alloc [.nils]), [], none, 0, 2⟩, ⟨.t 12, .call 449, [.t 11], none, 0, 1⟩, ⟨.t 15, .call 449, [.t 14], none, 1, 2⟩, ⟨.no, .e (.store 1), [.l 5, .t 12], none, 2, 3⟩, ⟨.no, .e (.store 1), [.l 6, .t 15], none, 3, 4⟩])
 (.seq (.reg [⟨.t 16, .p (.mv), [.l 1], none, 0, 0⟩, ⟨.t 17, .p (.mkf (.func 450) 0), [.l 2, .l 5, .l 6], none, 0, 0⟩, ⟨.t 18, .call 270, [.t 16, .t 17], none, 0, 0⟩, ⟨.t 19, .p (.un .not), [.t 18], none, 0, 0⟩, ⟨.l 4, .p (.mv), [.t 19], none, 0, 0⟩])
 .ret)))),
 [.tmp (.l 4)]⟩
theorem cf425_ok : compF TP Tryz.f425 = some cf425 := by kernel_rfl
def cf426 : CF := ⟨2, (.seq (.reg [⟨.l 2, .a (.box), [.l 0], none, 0, 0⟩, ⟨.l 4, .p (.mv), [.c .nils], none, 0, 0⟩])
 (.seq (.reg [⟨.l 5, .p (.mv), [.c .nils], none, 0, 0⟩])
 (.seq (.seq (.reg [⟨.l 16, .p (.mv), [.l 1], none, 0, 0⟩, ⟨.l 17, .p (.leng .sl), [.l 16], none, 0, 0⟩, ⟨.l 18, .p (.mv), [.c (.int .i64 0)], none, 0, 0⟩])
 (.block 0 (.loop (.seq (.reg [⟨.l 19, .p (.bin .lss), [.l 18, .l 17], none, 0, 0⟩])
 (.seq (.cond (.l 19) .skip
 (.exit 0))
 (.seq (.block 1 (.seq (.reg [⟨.t 20, .p (.ixsl 1), [.l 16, .l 18], none, 0, 0⟩, ⟨.t 21, .r (.load false 1), [.t 20], none, 0, 0⟩, ⟨.l 7, .p (.mv), [.t 21], none, 0, 0⟩])
 (.reg [⟨.t 22, .p (.mv), [.l 5], none, 0, 0⟩, ⟨.t 23, .r (.load false 1), [.l 2], none, 0, 0⟩, ⟨.t 24, .p (.mv), [.l 7], none, 0, 0⟩, ⟨.t 25, .call 452, [.t 23, .t 24], none, 0, 0⟩, ⟨.t 26, .a (.bslice [(.int .u64 0)] 1 1 [(0, 1)]), [.t 25], none, 0, 0⟩, ⟨.t 27, .e (.append 1 8 none), [.t 22, .t 26], none, 0, 0⟩, ⟨.l 5, .p (.mv), [.t 27], none, 0, 0⟩])))
 (.reg [⟨.t 28, .p (.bin .add), [.l 18, .c (.int .i64 1)], none, 0, 0⟩, ⟨.l 18, .p (.mv), [.t 28], none, 0, 0⟩])))))))
 (.seq (.seq (.reg [⟨.l 8, .p (.mv), [.c (.int .i64 0)], none, 0, 0⟩])
 (.block 2 (.loop (.seq (.seq (.reg [⟨.t 29, .p (.mv), [.l 8], none, 0, 0⟩, ⟨.t 30, .r (.load false 1), [.l 2], none, 0, 0⟩, ⟨.t 31, .p (.nilc), [.t 30], none, 0, 0⟩, ⟨.t 32, .p (.fa 8), [.t 31], none, 0, 0⟩, ⟨.t 33, .r (.load false 1), [.t 32], none, 0, 0⟩, ⟨.t 34, .p (.leng .sl), [.t 33], none, 0, 0⟩, ⟨.l 35, .p (.bin .lss), [.t 29, .t 34], none, 0, 0⟩])
 (.cond (.l 35) .skip
 (.exit 2)))
 (.seq (.block 3 (.seq (.reg [⟨.t 39, .r (.load false 1), [.l 2], none, 0, 0⟩, ⟨.t 40, .p (.nilc), [.t 39], none, 0, 0⟩, ⟨.t 41, .p (.fa 8), [.t 40], none, 0, 0⟩, ⟨.t 42, .r (.load false 1), [.t 41], none, 0, 0⟩, ⟨.t 43, .p (.mv), [.l 8], none, 0, 0⟩, ⟨.t 44, .p (.ixsl 1), [.t 42, .t 43], none, 0, 0⟩, ⟨.t 45, .r (.load false 1), [.t 44], none, 0, 0⟩, ⟨.t 46, .call 158, [.t 45], none, 0, 0⟩, ⟨.t 38, .p (.mv), [.t 46], none, 0, 0⟩, ⟨.t 47, .p (.ext 0), [.t 38], none, 0, 0⟩, ⟨.t 48, .p (.ext 1), [.t 38], none, 0, 0⟩, ⟨.t 49, .p (.ext 2), [.t 38], none, 0, 0⟩, ⟨.l 9, .a (.alloc [(.bool false)]), [], none, 0, 0⟩, ⟨.l 10, .a (.alloc [(.int .i64 0)]), [], none, 0, 0⟩, ⟨.no, .e (.store 1), [.l 9, .t 47], none, 0, 0⟩, ⟨.no, .e (.store 1), [.l 10, .t 48], none, 0, 0⟩, ⟨.t 11, .p (.mv), [.t 49], none, 0, 0⟩])
 (.seq (.regD [⟨.t 51, .r (.load false 1), [.l 2], none, 0, 0⟩, ⟨.t 52, .p (.nilc), [.t 51], none, 0, 0⟩, ⟨.t 53, .p (.fa 0), [.t 52], none, 0, 0⟩, ⟨.t 54, .r (.load true 3), [.t 53], none, 0, 0⟩, ⟨.t 55, .r (.load false 1), [.l 9], none, 0, 0⟩, ⟨.t 57, .r (.load false 1), [.l 10], none, 0, 1⟩, ⟨.l 12, .a (.alloc [.nils]), [], none, 0, 2⟩, ⟨.t 56, .call 451, [.t 54, .t 55], none, 0, 1⟩, ⟨.t 58, .call 453, [.t 56, .t 57], none, 1, 2⟩, ⟨.t 50, .p (.mv), [.t 58], none, 2, 2⟩, ⟨.t 59, .p (.ext 0), [.t 50], none, 2, 2⟩, ⟨.t 60, .p (.ext 1), [.t 50], none, 2, 3⟩, ⟨.no, .e (.store 1), [.l 12, .t 59], none, 2, 3⟩, ⟨.l 13, .p (.mv), [.t 60], none, 3, 3⟩])
 (.seq (.reg [⟨.t 61, .r (.load false 1), [.l 12], none, 0, 0⟩, ⟨.t 62, .p (.mv), [.l 13], none, 0, 0⟩, ⟨.l 63, .call 454, [.t 61, .t 62], none, 0, 0⟩])
 (.block 4 (.rangeF (.l 63) [.l 64, .l 65] (.seq (.reg [⟨.l 14, .p (.mv), [.l 64], none, 0, 0⟩])
 (.reg [⟨.l 15, .p (.mv), [.l 65], none, 0, 0⟩])) (.block 5 (.seq (.reg [⟨.t 66, .r (.load false 1), [.l 2], none, 0, 0⟩, ⟨.t 67, .p (.mv), [.l 15], none, 0, 0⟩, ⟨.t 68, .call 452, [.t 66, .t 67], none, 0, 0⟩, ⟨.l 15, .p (.mv), [.t 68], none, 0, 0⟩])
 (.seq (.regD [⟨.t 70, .r (.load false 1), [.l 2], none, 0, 0⟩, ⟨.t 71, .p (.nilc), [.t 70], none, 0, 0⟩, ⟨.t 72, .p (.fa 0), [.t 71], none, 0, 0⟩, ⟨.t 73, .r (.load true 3), [.t 72], none, 0, 0⟩, ⟨.t 74, .r (.load false 1), [.l 9], none, 0, 0⟩, ⟨.t 76, .r (.load false 1), [.l 10], none, 0, 1⟩, ⟨.t 75, .call 451, [.t 73, .t 74], none, 0, 1⟩, ⟨.t 77, .call 453, [.t 75, .t 76], none, 1, 2⟩, ⟨.t 69, .p (.mv), [.t 77], none, 2, 2⟩, ⟨.t 78, .p (.ext 0), [.t 69], none, 2, 2⟩, ⟨.t 79, .p (.ext 1), [.t 69], none, 2, 3⟩, ⟨.no, .e (.store 1), [.l 12, .t 78], none, 2, 3⟩])
 (.reg [⟨.t 80, .r (.load false 1), [.l 12], none, 0, 0⟩, ⟨.t 81, .p (.mv), [.l 14], none, 0, 0⟩, ⟨.t 82, .p (.mv), [.l 15], none, 0, 0⟩, ⟨.t 83, .p (.ixsl 1), [.t 80, .t 81], none, 0, 0⟩, ⟨.no, .e (.store 1), [.t 83, .t 82], none, 0, 0⟩]))))))))))
 (.reg [⟨.t 36, .p (.mv), [.l 8], none, 0, 0⟩, ⟨.t 37, .p (.bin .add), [.t 36, .c (.int .i64 1)], none, 0, 0⟩, ⟨.l 8, .p (.mv), [.t 37], none, 0, 0⟩]))))))
 (.seq (.reg [⟨.t 84, .p (.mv), [.l 5], none, 0, 0⟩, ⟨.l 4, .p (.mv), [.t 84], none, 0, 0⟩])
 .ret))))),
 [.tmp (.l 4)]⟩
theorem cf426_ok : compF TP Tryz.f426 = some cf426 := by kernel_rfl
def cf427 : CF := ⟨2, (.seq (.reg [⟨.l 4, .a (.alloc [.nils, .nils, (.int .i64 0)]), [], none, 0, 0⟩, ⟨.l 5, .p (.mv), [.c .nils], none, 0, 0⟩, ⟨.l 6, .p (.mv), [.c (.int .i64 0)], none, 0, 0⟩])
 (.seq (.reg [⟨.t 7, .p (.mv), [.l 0], none, 0, 0⟩, ⟨.t 8, .p (.nilc), [.t 7], none, 0, 0⟩, ⟨.t 9, .p (.fa 0), [.t 8], none, 0, 0⟩, ⟨.t 10, .r (.load true 3), [.t 9], none, 0, 0⟩, ⟨.t 11, .p (.mv), [.l 1], none, 0, 0⟩, ⟨.no, .e (.store 3), [.l 4, .t 10], none, 0, 0⟩, ⟨.l 5, .p (.mv), [.t 11], none, 0, 0⟩, ⟨.l 6, .p (.mv), [.c (.int .i64 0)], none, 0, 0⟩])
 .ret)),
 [.cell (.l 4) true 3, .tmp (.l 5), .tmp (.l 6)]⟩
theorem cf427_ok : compF TP Tryz.f427 = some cf427 := by kernel_rfl
def cf428 : CF := ⟨1, (.seq (.reg [⟨.l 2, .a (.alloc [.nils, .nils]), [], none, 0, 0⟩, ⟨.l 3, .p (.mv), [.c (.bool false)], none, 0, 0⟩])
 (.seq (.reg [⟨.t 10, .p (.mv), [.l 0], none, 0, 0⟩, ⟨.t 11, .p (.mv), [.l 0], none, 0, 0⟩, ⟨.t 12, .p (.leng .sl), [.t 11], none, 0, 0⟩, ⟨.t 13, .a (.mks [(.bool false)] 1), [.t 12, .t 12], none, 0, 0⟩, ⟨.t 14, .p (.build [.nils, .nils] [(0, 1), (1, 1)]), [.t 10, .t 13], none, 0, 0⟩, ⟨.l 4, .a (.alloc [.nils, .nils]), [], none, 0, 0⟩, ⟨.no, .e (.store 2), [.l 4, .t 14], none, 0, 0⟩])
 (.seq (.seq (.reg [⟨.l 5, .p (.mv), [.c (.int .i64 0)], none, 0, 0⟩])
 (.block 0 (.loop (.seq (.seq (.reg [⟨.t 15, .p (.mv), [.l 5], none, 0, 0⟩, ⟨.t 16, .p (.mv), [.l 0], none, 0, 0⟩, ⟨.t 17, .p (.leng .sl), [.t 16], none, 0, 0⟩, ⟨.l 18, .p (.bin .lss), [.t 15, .t 17], none, 0, 0⟩])
 (.cond (.l 18) .skip
 (.exit 0)))
 (.block 1 (.seq (.reg [⟨.t 19, .p (.fa 1), [.l 4], none, 0, 0⟩, ⟨.t 20, .r (.load false 1), [.t 19], none, 0, 0⟩, ⟨.t 21, .p (.mv), [.l 5], none, 0, 0⟩, ⟨.t 22, .p (.ixsl 1), [.t 20, .t 21], none, 0, 0⟩, ⟨.no, .e (.store 1), [.t 22, .c (.bool true)], none, 0, 0⟩])
 (.seq (.reg [⟨.l 6, .p (.mv), [.c (.int .i64 2)], none, 0, 0⟩])
 (.seq (.seq (.reg [⟨.t 23, .p (.mv), [.l 0], none, 0, 0⟩, ⟨.t 24, .p (.mv), [.l 5], none, 0, 0⟩, ⟨.t 25, .p (.ixsl 1), [.t 23, .t 24], none, 0, 0⟩, ⟨.t 26, .r (.load false 1), [.t 25], none, 0, 0⟩, ⟨.t 27, .call 161, [.t 26], none, 0, 0⟩, ⟨.l 28, .p (.bin .eql), [.t 27, .c (.int .i64 0)], none, 0, 0⟩])
 (.cond (.l 28) (.seq (.reg [⟨.t 30, .p (.mv), [.l 0], none, 0, 0⟩, ⟨.t 31, .p (.mv), [.l 5], none, 0, 0⟩, ⟨.t 32, .p (.ixsl 1), [.t 30, .t 31], none, 0, 0⟩, ⟨.t 33, .r (.load false 1), [.t 32], none, 0, 0⟩, ⟨.t 34, .call 233, [.t 33], none, 0, 0⟩, ⟨.t 29, .p (.mv), [.t 34], none, 0, 0⟩, ⟨.t 35, .p (.ext 0), [.t 29], none, 0, 0⟩, ⟨.t 36, .p (.ext 1), [.t 29], none, 0, 0⟩, ⟨.t 37, .p (.ext 2), [.t 29], none, 0, 0⟩, ⟨.t 7, .p (.mv), [.t 35], none, 0, 0⟩, ⟨.l 8, .p (.mv), [.t 36], none, 0, 0⟩, ⟨.l 9, .p (.mv), [.t 37], none, 0, 0⟩])
 (.seq (.seq (.reg [⟨.t 38, .p (.mv), [.l 9], none, 0, 0⟩, ⟨.l 39, .p (.un .not), [.t 38], none, 0, 0⟩])
 (.cond (.l 39) (.seq (.reg [⟨.t 40, .p (.build [.nils, .nils] []), [], none, 0, 0⟩, ⟨.no, .e (.store 2), [.l 2, .t 40], none, 0, 0⟩, ⟨.l 3, .p (.mv), [.c (.bool false)], none, 0, 0⟩])
 .ret)
 .skip))
 (.reg [⟨.t 41, .p (.mv), [.l 8], none, 0, 0⟩, ⟨.t 42, .p (.bin .add), [.c (.int .i64 1), .t 41], none, 0, 0⟩, ⟨.l 6, .p (.mv), [.t 42], none, 0, 0⟩])))
 .skip))
 (.seq (.seq (.reg [⟨.t 43, .p (.mv), [.l 6], none, 0, 0⟩, ⟨.t 44, .p (.mv), [.l 0], none, 0, 0⟩, ⟨.t 45, .p (.leng .sl), [.t 44], none, 0, 0⟩, ⟨.t 46, .p (.mv), [.l 5], none, 0, 0⟩, ⟨.t 47, .p (.bin .sub), [.t 45, .t 46], none, 0, 0⟩, ⟨.l 48, .p (.bin .gtr), [.t 43, .t 47], none, 0, 0⟩])
 (.cond (.l 48) (.seq (.reg [⟨.t 49, .p (.build [.nils, .nils] []), [], none, 0, 0⟩, ⟨.no, .e (.store 2), [.l 2, .t 49], none, 0, 0⟩, ⟨.l 3, .p (.mv), [.c (.bool false)], none, 0, 0⟩])
 .ret)
 .skip))
 (.reg [⟨.t 50, .p (.mv), [.l 5], none, 0, 0⟩, ⟨.t 51, .p (.mv), [.l 6], none, 0, 0⟩, ⟨.t 52, .p (.bin .add), [.t 50, .t 51], none, 0, 0⟩, ⟨.l 5, .p (.mv), [.t 52], none, 0, 0⟩]))))))))))
 (.seq (.reg [⟨.t 53, .r (.load true 2), [.l 4], none, 0, 0⟩, ⟨.no, .e (.store 2), [.l 2, .t 53], none, 0, 0⟩, ⟨.l 3, .p (.mv), [.c (.bool true)], none, 0, 0⟩])
 .ret)))),
 [.cell (.l 2) true 2, .tmp (.l 3)]⟩
theorem cf428_ok : compF TP Tryz.f428 = some cf428 := by kernel_rfl
def cf429 : CF := ⟨1, (.seq (.reg [⟨.l 1, .a (.box), [.l 0], none, 0, 0⟩, ⟨.l 2, .p (.mv), [.c .nilf], none, 0, 0⟩])
 (.seq (.reg [⟨.t 3, .p (.mkf (.func 455) 0), [.l 1], none, 0, 0⟩, ⟨.l 2, .p (.mv), [.t 3], none, 0, 0⟩])
 .ret)),
 [.tmp (.l 2)]⟩
theorem cf429_ok : compF TP Tryz.f429 = some cf429 := by kernel_rfl
def cf448 : CF := ⟨1, (.seq (.reg [⟨.l 1, .a (.box), [.l 0], none, 0, 0⟩, ⟨.l 2, .p (.mv), [.c (.bool false)], none, 0, 0⟩])
 (.seq (.reg [⟨.t 6, .r (.load true 3), [.l 1], none, 0, 0⟩, ⟨.t 7, .call 381, [.t 6], none, 0, 0⟩, ⟨.t 5, .p (.mv), [.t 7], none, 0, 0⟩, ⟨.t 8, .p (.ext 0), [.t 5], none, 0, 0⟩, ⟨.t 9, .p (.ext 1), [.t 5], none, 0, 0⟩, ⟨.t 3, .a (.alloc [.nils, .nils, .nils, .nils]), [], none, 0, 0⟩, ⟨.no, .e (.store 4), [.t 3, .t 8], none, 0, 0⟩, ⟨.l 4, .p (.mv), [.t 9], none, 0, 0⟩])
 (.seq (.reg [⟨.t 10, .p (.mv), [.l 4], none, 0, 0⟩, ⟨.l 2, .p (.mv), [.t 10], none, 0, 0⟩])
 .ret))),
 [.tmp (.l 2)]⟩
theorem cf448_ok : compF TP Tryz.f448 = some cf448 := by kernel_rfl
def cf449 : CF := ⟨1, (.seq (.reg [⟨.l 2, .p (.mv), [.c .nils], none, 0, 0⟩])
 (.seq (.reg [⟨.t 7, .p (.mv), [.l 0], none, 0, 0⟩, ⟨.t 8, .p (.leng .sl), [.t 7], none, 0, 0⟩, ⟨.t 9, .a (.mks [(.bool false)] 1), [.t 8, .t 8], none, 0, 0⟩, ⟨.l 3, .p (.mv), [.t 9], none, 0, 0⟩])
 (.seq (.seq (.reg [⟨.l 4, .p (.mv), [.c (.int .i64 0)], none, 0, 0⟩])
 (.block 0 (.loop (.seq (.seq (.reg [⟨.t 10, .p (.mv), [.l 4], none, 0, 0⟩, ⟨.t 11, .p (.mv), [.l 0], none, 0, 0⟩, ⟨.t 12, .p (.leng .sl), [.t 11], none, 0, 0⟩, ⟨.l 13, .p (.bin .lss), [.t 10, .t 12], none, 0, 0⟩])
 (.cond (.l 13) .skip
 (.exit 0)))
 (.block 1 (.seq (.reg [⟨.t 14, .p (.mv), [.l 3], none, 0, 0⟩, ⟨.t 15, .p (.mv), [.l 4], none, 0, 0⟩, ⟨.t 16, .p (.ixsl 1), [.t 14, .t 15], none, 0, 0⟩, ⟨.no, .e (.store 1), [.t 16, .c (.bool true)], none, 0, 0⟩])
 (.seq (.reg [⟨.t 18, .p (.mv), [.l 0], none, 0, 0⟩, ⟨.t 19, .p (.mv), [.l 4], none, 0, 0⟩, ⟨.t 20, .call 453, [.t 18, .t 19], none, 0, 0⟩, ⟨.t 17, .p (.mv), [.t 20], none, 0, 0⟩, ⟨.t 21, .p (.ext 0), [.t 17], none, 0, 0⟩, ⟨.t 22, .p (.ext 1), [.t 17], none, 0, 0⟩, ⟨.l 5, .p (.mv), [.t 21], none, 0, 0⟩, ⟨.t 6, .p (.mv), [.t 22], none, 0, 0⟩])
 (.reg [⟨.t 23, .p (.mv), [.l 4], none, 0, 0⟩, ⟨.t 24, .p (.mv), [.l 5], none, 0, 0⟩, ⟨.t 25, .p (.leng .sl), [.t 24], none, 0, 0⟩, ⟨.t 26, .p (.bin .add), [.t 23, .t 25], none, 0, 0⟩, ⟨.l 4, .p (.mv), [.t 26], none, 0, 0⟩]))))))))
 (.seq (.reg [⟨.t 27, .p (.mv), [.l 3], none, 0, 0⟩, ⟨.l 2, .p (.mv), [.t 27], none, 0, 0⟩])
 .ret)))),
 [.tmp (.l 2)]⟩
theorem cf449_ok : compF TP Tryz.f449 = some cf449 := by kernel_rfl
def cf450 : CF := ⟨4, (.seq (.reg [⟨.l 5, .p (.mv), [.c (.bool false)], none, 0, 0⟩])
 (.seq (.reg [⟨.t 12, .p (.mv), [.l 0], none, 0, 0⟩, ⟨.t 13, .call 158, [.t 12], none, 0, 0⟩, ⟨.t 11, .p (.mv), [.t 13], none, 0, 0⟩, ⟨.t 14, .p (.ext 0), [.t 11], none, 0, 0⟩, ⟨.t 15, .p (.ext 1), [.t 11], none, 0, 0⟩, ⟨.t 16, .p (.ext 2), [.t 11], none, 0, 0⟩, ⟨.l 6, .p (.mv), [.t 14], none, 0, 0⟩, ⟨.l 7, .p (.mv), [.t 15], none, 0, 0⟩, ⟨.l 8, .p (.mv), [.t 16], none, 0, 0⟩])
 (.seq (.seq (.reg [⟨.t 17, .p (.mv), [.l 8], none, 0, 0⟩, ⟨.l 18, .p (.un .not), [.t 17], none, 0, 0⟩])
 (.cond (.l 18) (.seq (.reg [⟨.t 19, .p (.mv), [.l 0], none, 0, 0⟩, ⟨.t 20, .call 161, [.t 19], none, 0, 0⟩, ⟨.t 21, .p (.bin .neq), [.t 20, .c (.int .i64 3)], none, 0, 0⟩, ⟨.t 22, .p (.mv), [.t 21], none, 0, 0⟩, ⟨.t 23, .p (.mv), [.l 0], (some (.t 22, false)), 0, 0⟩, ⟨.t 24, .call 299, [.t 23], (some (.t 22, false)), 0, 0⟩, ⟨.t 25, .p (.un .not), [.t 24], (some (.t 22, false)), 0, 0⟩, ⟨.t 26, .p (.pick), [.t 22, .c (.bool true), .t 25], none, 0, 0⟩, ⟨.l 5, .p (.mv), [.t 26], none, 0, 0⟩])
 .ret)
 .skip))
 (.seq (.regD [⟨.t 27, .r (.load true 3), [.l 1], none, 0, 0⟩, ⟨.t 28, .p (.mv), [.l 6], none, 0, 0⟩, ⟨.t 30, .r (.load false 1), [.l 2], none, 0, 1⟩, ⟨.t 29, .call 451, [.t 27, .t 28], none, 0, 1⟩, ⟨.l 9, .p (.mv), [.t 29], none, 1, 1⟩, ⟨.l 10, .p (.mv), [.t 30], none, 1, 1⟩])
 (.seq (.seq (.reg [⟨.l 31, .p (.mv), [.l 6], none, 0, 0⟩])
 (.cond (.l 31) (.reg [⟨.t 32, .r (.load false 1), [.l 3], none, 0, 0⟩, ⟨.l 10, .p (.mv), [.t 32], none, 0, 0⟩])
 .skip))
 (.seq (.reg [⟨.t 33, .p (.mv), [.l 7], none, 0, 0⟩, ⟨.t 34, .p (.mv), [.l 9], none, 0, 0⟩, ⟨.t 35, .p (.leng .sl), [.t 34], none, 0, 0⟩, ⟨.t 36, .p (.bin .geq), [.t 33, .t 35], none, 0, 0⟩, ⟨.t 37, .p (.mv), [.t 36], none, 0, 0⟩, ⟨.t 38, .p (.mv), [.l 10], (some (.t 37, false)), 0, 0⟩, ⟨.t 39, .p (.mv), [.l 7], (some (.t 37, false)), 0, 0⟩, ⟨.t 40, .p (.ixsl 1), [.t 38, .t 39], (some (.t 37, false)), 0, 0⟩, ⟨.t 41, .r (.load false 1), [.t 40], (some (.t 37, false)), 0, 0⟩, ⟨.t 42, .p (.un .not), [.t 41], (some (.t 37, false)), 0, 0⟩, ⟨.t 43, .p (.pick), [.t 37, .c (.bool true), .t 42], none, 0, 0⟩, ⟨.t 44, .p (.mv), [.t 43], none, 0, 0⟩, ⟨.t 45, .p (.mv), [.l 9], (some (.t 44, false)), 0, 0⟩, ⟨.t 46, .p (.mv), [.l 7], (some (.t 44, false)), 0, 0⟩, ⟨.t 47, .p (.ixsl 1), [.t 45, .t 46], (some (.t 44, false)), 0, 0⟩, ⟨.t 48, .r (.load false 1), [.t 47], (some (.t 44, false)), 0, 0⟩, ⟨.t 49, .call 161, [.t 48], (some (.t 44, false)), 0, 0⟩, ⟨.t 50, .p (.bin .eql), [.t 49, .c (.int .i64 0)], (some (.t 44, false)), 0, 0⟩, ⟨.t 51, .p (.mv), [.l 0], (some (.t 44, false)), 0, 0⟩, ⟨.t 52, .call 161, [.t 51], (some (.t 44, false)), 0, 0⟩, ⟨.t 53, .p (.bin .eql), [.t 52, .c (.int .i64 2)], (some (.t 44, false)), 0, 0⟩, ⟨.t 54, .p (.eqd .b true), [.t 50, .t 53], (some (.t 44, false)), 0, 0⟩, ⟨.t 55, .p (.pick), [.t 44, .c (.bool true), .t 54], none, 0, 0⟩, ⟨.l 5, .p (.mv), [.t 55], none, 0, 0⟩])
 .ret)))))),
 [.tmp (.l 5)]⟩
theorem cf450_ok : compF TP Tryz.f450 = some cf450 := by kernel_rfl
def cf452 : CF := ⟨2, (.seq (.reg [⟨.l 4, .p (.mv), [.c (.int .u64 0)], none, 0, 0⟩])
 (.seq (.reg [⟨.t 17, .p (.mv), [.l 1], none, 0, 0⟩, ⟨.t 18, .call 158, [.t 17], none, 0, 0⟩, ⟨.t 16, .p (.mv), [.t 18], none, 0, 0⟩, ⟨.t 19, .p (.ext 0), [.t 16], none, 0, 0⟩, ⟨.t 20, .p (.ext 1), [.t 16], none, 0, 0⟩, ⟨.t 21, .p (.ext 2), [.t 16], none, 0, 0⟩, ⟨.l 5, .p (.mv), [.t 19], none, 0, 0⟩, ⟨.l 6, .p (.mv), [.t 20], none, 0, 0⟩, ⟨.l 7, .p (.mv), [.t 21], none, 0, 0⟩])
 (.seq (.seq (.reg [⟨.t 22, .p (.mv), [.l 7], none, 0, 0⟩, ⟨.t 23, .p (.un .not), [.t 22], none, 0, 0⟩, ⟨.t 24, .p (.mv), [.t 23], none, 0, 0⟩, ⟨.t 25, .p (.mv), [.l 5], (some (.t 24, false)), 0, 0⟩, ⟨.t 26, .p (.mv), [.t 25], (some (.t 24, false)), 0, 0⟩, ⟨.t 27, .p (.mv), [.l 0], (some (.t 26, true)), 0, 0⟩, ⟨.t 28, .p (.nilc), [.t 27], (some (.t 26, true)), 0, 0⟩, ⟨.t 29, .p (.fa 6), [.t 28], (some (.t 26, true)), 0, 0⟩, ⟨.t 30, .r (.load false 1), [.t 29], (some (.t 26, true)), 0, 0⟩, ⟨.t 31, .p (.un .not), [.t 30], (some (.t 26, true)), 0, 0⟩, ⟨.t 32, .p (.pick), [.t 26, .t 31, .c (.bool false)], (some (.t 24, false)), 0, 0⟩, ⟨.l 33, .p (.pick), [.t 24, .c (.bool true), .t 32], none, 0, 0⟩])
 (.cond (.l 33) (.seq (.reg [⟨.t 34, .p (.mv), [.l 1], none, 0, 0⟩, ⟨.l 4, .p (.mv), [.t 34], none, 0, 0⟩])
 .ret)
 .skip))
 (.seq (.seq (.reg [⟨.t 36, .p (.mv), [.l 0], none, 0, 0⟩, ⟨.t 37, .p (.nilc), [.t 36], none, 0, 0⟩, ⟨.t 38, .p (.fa 7), [.t 37], none, 0, 0⟩, ⟨.t 39, .r (.load false 1), [.t 38], none, 0, 0⟩, ⟨.t 40, .p (.mv), [.l 1], none, 0, 0⟩, ⟨.t 41, .r (.lookup (.one .i) true (.int .u64 0)), [.t 39, .t 40], none, 0, 0⟩, ⟨.t 35, .p (.mv), [.t 41], none, 0, 0⟩, ⟨.t 42, .p (.ext 0), [.t 35], none, 0, 0⟩, ⟨.t 43, .p (.ext 1), [.t 35], none, 0, 0⟩, ⟨.l 8, .p (.mv), [.t 42], none, 0, 0⟩, ⟨.l 9, .p (.mv), [.t 43], none, 0, 0⟩])
 (.seq (.reg [⟨.l 44, .p (.mv), [.l 9], none, 0, 0⟩])
 (.cond (.l 44) (.seq (.reg [⟨.t 45, .p (.mv), [.l 8], none, 0, 0⟩, ⟨.l 4, .p (.mv), [.t 45], none, 0, 0⟩])
 .ret)
 .skip)))
 (.seq (.reg [⟨.t 47, .p (.mv), [.l 0], none, 0, 0⟩, ⟨.t 48, .p (.nilc), [.t 47], none, 0, 0⟩, ⟨.t 49, .p (.fa 3), [.t 48], none, 0, 0⟩, ⟨.t 50, .r (.load true 3), [.t 49], none, 0, 0⟩, ⟨.t 51, .p (.mv), [.l 5], none, 0, 0⟩, ⟨.t 52, .call 451, [.t 50, .t 51], none, 0, 0⟩, ⟨.t 53, .p (.mv), [.l 6], none, 0, 0⟩, ⟨.t 54, .call 453, [.t 52, .t 53], none, 0, 0⟩, ⟨.t 46, .p (.mv), [.t 54], none, 0, 0⟩, ⟨.t 55, .p (.ext 0), [.t 46], none, 0, 0⟩, ⟨.t 56, .p (.ext 1), [.t 46], none, 0, 0⟩, ⟨.l 10, .p (.mv), [.t 55], none, 0, 0⟩, ⟨.t 11, .p (.mv), [.t 56], none, 0, 0⟩])
 (.seq (.reg [⟨.t 57, .p (.mv), [.l 0], none, 0, 0⟩, ⟨.t 58, .p (.nilc), [.t 57], none, 0, 0⟩, ⟨.t 59, .p (.fa 0), [.t 58], none, 0, 0⟩, ⟨.t 60, .p (.fa 0), [.t 59], none, 0, 0⟩, ⟨.l 12, .p (.mv), [.t 60], none, 0, 0⟩])
 (.seq (.reg [⟨.t 61, .p (.mv), [.l 0], none, 0, 0⟩, ⟨.t 62, .p (.nilc), [.t 61], none, 0, 0⟩, ⟨.t 63, .p (.fa 6), [.t 62], none, 0, 0⟩, ⟨.t 64, .r (.load false 1), [.t 63], none, 0, 0⟩, ⟨.t 65, .p (.mv), [.t 64], none, 0, 0⟩, ⟨.t 66, .p (.mv), [.l 5], (some (.t 65, false)), 0, 0⟩, ⟨.t 67, .p (.pick), [.t 65, .c (.bool true), .t 66], none, 0, 0⟩, ⟨.t 68, .p (.mv), [.t 67], none, 0, 0⟩, ⟨.t 69, .p (.mv), [.l 6], (some (.t 68, false)), 0, 0⟩, ⟨.t 70, .p (.mv), [.l 0], (some (.t 68, false)), 0, 0⟩, ⟨.t 71, .p (.nilc), [.t 70], (some (.t 68, false)), 0, 0⟩, ⟨.t 72, .p (.fa 3), [.t 71], (some (.t 68, false)), 0, 0⟩, ⟨.t 73, .p (.fa 2), [.t 72], (some (.t 68, false)), 0, 0⟩, ⟨.t 74, .r (.load false 1), [.t 73], (some (.t 68, false)), 0, 0⟩, ⟨.t 75, .p (.bin .lss), [.t 69, .t 74], (some (.t 68, false)), 0, 0⟩, ⟨.t 76, .p (.pick), [.t 68, .c (.bool true), .t 75], none, 0, 0⟩, ⟨.l 13, .p (.mv), [.t 76], none, 0, 0⟩])
 (.seq (.seq (.reg [⟨.l 77, .p (.mv), [.l 13], none, 0, 0⟩])
 (.cond (.l 77) (.reg [⟨.t 78, .p (.mv), [.l 0], none, 0, 0⟩, ⟨.t 79, .p (.nilc), [.t 78], none, 0, 0⟩, ⟨.t 80, .p (.fa 0), [.t 79], none, 0, 0⟩, ⟨.t 81, .p (.fa 1), [.t 80], none, 0, 0⟩, ⟨.l 12, .p (.mv), [.t 81], none, 0, 0⟩])
 .skip))
 (.seq (.reg [⟨.t 83, .p (.mv), [.l 13], none, 0, 0⟩, ⟨.t 84, .p (.mv), [.l 12], none, 0, 0⟩, ⟨.t 85, .p (.nilc), [.t 84], none, 0, 0⟩, ⟨.t 86, .r (.load false 1), [.t 85], none, 0, 0⟩, ⟨.t 87, .p (.leng .sl), [.t 86], none, 0, 0⟩, ⟨.t 88, .call 274, [.t 83, .t 87], none, 0, 0⟩, ⟨.t 82, .p (.mv), [.t 88], none, 0, 0⟩, ⟨.t 89, .p (.ext 0), [.t 82], none, 0, 0⟩, ⟨.t 90, .p (.ext 1), [.t 82], none, 0, 0⟩, ⟨.l 14, .p (.mv), [.t 89], none, 0, 0⟩, ⟨.t 15, .p (.mv), [.t 90], none, 0, 0⟩])
 (.seq (.seq (.reg [⟨.t 91, .p (.mv), [.l 1], none, 0, 0⟩, ⟨.t 92, .call 161, [.t 91], none, 0, 0⟩, ⟨.l 93, .p (.bin .eql), [.t 92, .c (.int .i64 1)], none, 0, 0⟩])
 (.cond (.l 93) (.reg [⟨.t 95, .p (.mv), [.l 13], none, 0, 0⟩, ⟨.t 96, .p (.mv), [.l 12], none, 0, 0⟩, ⟨.t 97, .p (.nilc), [.t 96], none, 0, 0⟩, ⟨.t 98, .r (.load false 1), [.t 97], none, 0, 0⟩, ⟨.t 99, .p (.leng .sl), [.t 98], none, 0, 0⟩, ⟨.t 100, .call 276, [.t 95, .t 99], none, 0, 0⟩, ⟨.t 94, .p (.mv), [.t 100], none, 0, 0⟩, ⟨.t 101, .p (.ext 0), [.t 94], none, 0, 0⟩, ⟨.t 102, .p (.ext 1), [.t 94], none, 0, 0⟩, ⟨.l 14, .p (.mv), [.t 101], none, 0, 0⟩])
 .skip))
 (.seq (.reg [⟨.t 103, .p (.mv), [.l 12], none, 0, 0⟩, ⟨.t 104, .p (.mv), [.l 12], none, 0, 0⟩, ⟨.t 105, .p (.nilc), [.t 104], none, 0, 0⟩, ⟨.t 106, .r (.load false 1), [.t 105], none, 0, 0⟩, ⟨.t 107, .p (.mv), [.l 10], none, 0, 0⟩, ⟨.t 108, .e (.append 1 8 none), [.t 106, .t 107], none, 0, 0⟩, ⟨.t 109, .p (.nilc), [.t 103], none, 0, 0⟩, ⟨.no, .e (.store 1), [.t 109, .t 108], none, 0, 0⟩])
 (.seq (.reg [⟨.t 110, .p (.mv), [.l 0], none, 0, 0⟩, ⟨.t 111, .p (.nilc), [.t 110], none, 0, 0⟩, ⟨.t 112, .p (.fa 7), [.t 111], none, 0, 0⟩, ⟨.t 113, .r (.load false 1), [.t 112], none, 0, 0⟩, ⟨.t 114, .p (.mv), [.l 1], none, 0, 0⟩, ⟨.t 115, .p (.mv), [.l 14], none, 0, 0⟩, ⟨.no, .e (.mapup (.one .i)), [.t 113, .t 114, .t 115], none, 0, 0⟩])
 (.seq (.reg [⟨.t 116, .p (.mv), [.l 0], none, 0, 0⟩, ⟨.t 117, .p (.mv), [.l 0], none, 0, 0⟩, ⟨.t 118, .p (.nilc), [.t 117], none, 0, 0⟩, ⟨.t 119, .p (.fa 8), [.t 118], none, 0, 0⟩, ⟨.t 120, .r (.load false 1), [.t 119], none, 0, 0⟩, ⟨.t 121, .p (.mv), [.l 14], none, 0, 0⟩, ⟨.t 122, .a (.bslice [(.int .u64 0)] 1 1 [(0, 1)]), [.t 121], none, 0, 0⟩, ⟨.t 123, .e (.append 1 8 none), [.t 120, .t 122], none, 0, 0⟩, ⟨.t 124, .p (.nilc), [.t 116], none, 0, 0⟩, ⟨.t 125, .p (.fa 8), [.t 124], none, 0, 0⟩, ⟨.no, .e (.store 1), [.t 125, .t 123], none, 0, 0⟩])
 (.seq (.reg [⟨.t 126, .p (.mv), [.l 14], none, 0, 0⟩, ⟨.l 4, .p (.mv), [.t 126], none, 0, 0⟩])
 .ret)))))))))))))),
 [.tmp (.l 4)]⟩
theorem cf452_ok : compF TP Tryz.f452 = some cf452 := by kernel_rfl
def cf455 : CF := ⟨2, (.seq (.reg [⟨.l 10, .a (.bslice [(.bool false)] 2 1 [(0, 1), (1, 1)]), [.c (.bool false), .c (.bool true)], none, 0, 0⟩, ⟨.l 11, .p (.leng .sl), [.l 10], none, 0, 0⟩, ⟨.l 12, .p (.mv), [.c (.int .i64 0)], none, 0, 0⟩])
 (.block 0 (.loop (.seq (.reg [⟨.l 13, .p (.bin .lss), [.l 12, .l 11], none, 0, 0⟩])
 (.seq (.cond (.l 13) .skip
 (.exit 0))
 (.seq (.block 1 (.seq (.reg [⟨.t 14, .p (.ixsl 1), [.l 10, .l 12], none, 0, 0⟩, ⟨.t 15, .r (.load false 1), [.t 14], none, 0, 0⟩, ⟨.l 4, .p (.mv), [.t 15], none, 0, 0⟩])
 (.seq (.reg [⟨.t 16, .r (.load false 1), [.l 1], none, 0, 0⟩, ⟨.t 17, .p (.mv), [.l 4], none, 0, 0⟩, ⟨.t 18, .call 159, [.t 16, .t 17], none, 0, 0⟩, ⟨.l 5, .p (.mv), [.t 18], none, 0, 0⟩])
 (.seq (.reg [⟨.t 19, .p (.mv), [.l 5], none, 0, 0⟩, ⟨.t 20, .p (.nilc), [.t 19], none, 0, 0⟩, ⟨.t 21, .p (.fa 1), [.t 20], none, 0, 0⟩, ⟨.l 22, .r (.load false 1), [.t 21], none, 0, 0⟩, ⟨.l 23, .p (.leng .sl), [.l 22], none, 0, 0⟩, ⟨.l 24, .p (.mv), [.c (.int .i64 0)], none, 0, 0⟩])
 (.block 2 (.loop (.seq (.reg [⟨.l 25, .p (.bin .lss), [.l 24, .l 23], none, 0, 0⟩])
 (.seq (.cond (.l 25) .skip
 (.exit 2))
 (.seq (.block 3 (.seq (.reg [⟨.t 26, .p (.mv), [.l 24], none, 0, 0⟩, ⟨.t 27, .p (.ixsl 1), [.l 22, .l 24], none, 0, 0⟩, ⟨.t 28, .r (.load false 1), [.t 27], none, 0, 0⟩, ⟨.l 6, .p (.mv), [.t 26], none, 0, 0⟩, ⟨.l 7, .p (.mv), [.t 28], none, 0, 0⟩])
 (.seq (.seq (.reg [⟨.t 29, .p (.mv), [.l 7], none, 0, 0⟩, ⟨.l 30, .p (.un .not), [.t 29], none, 0, 0⟩])
 (.cond (.l 30) (.exit 3)
 .skip))
 (.seq (.reg [⟨.t 32, .p (.mv), [.l 4], none, 0, 0⟩, ⟨.t 33, .p (.mv), [.l 6], none, 0, 0⟩, ⟨.t 34, .call 274, [.t 32, .t 33], none, 0, 0⟩, ⟨.t 31, .p (.mv), [.t 34], none, 0, 0⟩, ⟨.t 35, .p (.ext 0), [.t 31], none, 0, 0⟩, ⟨.t 36, .p (.ext 1), [.t 31], none, 0, 0⟩, ⟨.l 8, .p (.mv), [.t 35], none, 0, 0⟩, ⟨.t 9, .p (.mv), [.t 36], none, 0, 0⟩])
 (.seq (.seq (.reg [⟨.t 37, .p (.mv), [.l 5], none, 0, 0⟩, ⟨.t 38, .p (.nilc), [.t 37], none, 0, 0⟩, ⟨.t 39, .p (.fa 0), [.t 38], none, 0, 0⟩, ⟨.t 40, .r (.load false 1), [.t 39], none, 0, 0⟩, ⟨.t 41, .p (.mv), [.l 6], none, 0, 0⟩, ⟨.t 42, .p (.ixsl 1), [.t 40, .t 41], none, 0, 0⟩, ⟨.t 43, .r (.load false 1), [.t 42], none, 0, 0⟩, ⟨.t 44, .call 161, [.t 43], none, 0, 0⟩, ⟨.l 45, .p (.bin .neq), [.t 44, .c (.int .i64 0)], none, 0, 0⟩])
 (.cond (.l 45) (.reg [⟨.t 47, .p (.mv), [.l 4], none, 0, 0⟩, ⟨.t 48, .p (.mv), [.l 6], none, 0, 0⟩, ⟨.t 49, .call 276, [.t 47, .t 48], none, 0, 0⟩, ⟨.t 46, .p (.mv), [.t 49], none, 0, 0⟩, ⟨.t 50, .p (.ext 0), [.t 46], none, 0, 0⟩, ⟨.t 51, .p (.ext 1), [.t 46], none, 0, 0⟩, ⟨.l 8, .p (.mv), [.t 50], none, 0, 0⟩])
 .skip))
 (.seq (.reg [⟨.t 52, .p (.mv), [.l 0], none, 0, 0⟩, ⟨.t 53, .p (.mv), [.l 8], none, 0, 0⟩, ⟨.t 54, .callv, [.t 52, .t 53], none, 0, 0⟩, ⟨.l 55, .p (.un .not), [.t 54], none, 0, 0⟩])
 (.cond (.l 55) .ret
 .skip)))))))
 (.reg [⟨.t 56, .p (.bin .add), [.l 24, .c (.int .i64 1)], none, 0, 0⟩, ⟨.l 24, .p (.mv), [.t 56], none, 0, 0⟩]))))))))))
 (.reg [⟨.t 57, .p (.bin .add), [.l 12, .c (.int .i64 1)], none, 0, 0⟩, ⟨.l 12, .p (.mv), [.t 57], none, 0, 0⟩]))))))),
 []⟩
theorem cf455_ok : compF TP Tryz.f455 = some cf455 := by kernel_rfl
end
end Ev
end Go.Proofs.YtgeccgjpiaiifaaGreatDoor
