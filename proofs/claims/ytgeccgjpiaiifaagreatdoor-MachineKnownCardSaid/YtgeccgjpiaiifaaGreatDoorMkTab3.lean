/-
  The functions of the program, compiled (printed by a program of ours; each is held against the program's own text below).
-/
import Derived.Test.YtgeccgjpiaiifaaGreatDoorMkTab1
namespace Go.Proofs.YtgeccgjpiaiifaaGreatDoor
namespace Ev
noncomputable section
def cf173 : CF := ⟨2, (.seq (.reg [⟨.l 4, .p (.mv), [.c (.int .i64 0)], none, 0, 0⟩])
 (.seq (.seq (.reg [⟨.t 5, .p (.mv), [.l 1], none, 0, 0⟩, ⟨.t 6, .p (.bin .lss), [.t 5, .c (.int .i64 0)], none, 0, 0⟩, ⟨.t 7, .p (.mv), [.t 6], none, 0, 0⟩, ⟨.t 8, .p (.mv), [.l 0], (some (.t 7, false)), 0, 0⟩, ⟨.t 9, .call 238, [.t 8, .c (.str 1 47)], (some (.t 7, false)), 0, 0⟩, ⟨.l 10, .p (.pick), [.t 7, .c (.bool true), .t 9], none, 0, 0⟩])
 (.cond (.l 10) (.seq (.reg [⟨.l 4, .p (.mv), [.c (.int .i64 0)], none, 0, 0⟩])
 .ret)
 .skip))
 (.seq (.reg [⟨.t 11, .call 239, [], none, 0, 0⟩, ⟨.t 12, .p (.mv), [.l 0], none, 0, 0⟩, ⟨.t 13, .p (.bin .add), [.t 12, .c (.str 1 47)], none, 0, 0⟩, ⟨.t 14, .p (.mv), [.l 1], none, 0, 0⟩, ⟨.t 15, .call 240, [.t 14], none, 0, 0⟩, ⟨.t 16, .p (.bin .add), [.t 13, .t 15], none, 0, 0⟩, ⟨.t 17, .r (.lookup (.one .s) false (.int .i64 0)), [.t 11, .t 16], none, 0, 0⟩, ⟨.l 4, .p (.mv), [.t 17], none, 0, 0⟩])
 .ret))),
 [.tmp (.l 4)]⟩
theorem cf173_ok : compF TP Tryz.f173 = some cf173 := by kernel_rfl
def cf177 : CF := ⟨1, (.seq (.reg [⟨.l 2, .p (.mv), [.c .nils], none, 0, 0⟩])
 (.seq (.reg [⟨.t 5, .p (.mv), [.l 0], none, 0, 0⟩, ⟨.t 6, .a (.mks [(.int .i64 0)] 8), [.t 5, .t 5], none, 0, 0⟩, ⟨.l 3, .p (.mv), [.t 6], none, 0, 0⟩])
 (.seq (.seq (.reg [⟨.t 7, .p (.mv), [.l 3], none, 0, 0⟩, ⟨.l 8, .p (.leng .sl), [.t 7], none, 0, 0⟩, ⟨.l 9, .p (.mv), [.c (.int .i64 0)], none, 0, 0⟩])
 (.block 0 (.loop (.seq (.reg [⟨.l 10, .p (.bin .lss), [.l 9, .l 8], none, 0, 0⟩])
 (.seq (.cond (.l 10) .skip
 (.exit 0))
 (.seq (.block 1 (.seq (.reg [⟨.t 11, .p (.mv), [.l 9], none, 0, 0⟩, ⟨.l 4, .p (.mv), [.t 11], none, 0, 0⟩])
 (.reg [⟨.t 12, .p (.mv), [.l 3], none, 0, 0⟩, ⟨.t 13, .p (.mv), [.l 4], none, 0, 0⟩, ⟨.t 14, .p (.ixsl 1), [.t 12, .t 13], none, 0, 0⟩, ⟨.no, .e (.store 1), [.t 14, .c (.int .i64 1)], none, 0, 0⟩])))
 (.reg [⟨.t 15, .p (.bin .add), [.l 9, .c (.int .i64 1)], none, 0, 0⟩, ⟨.l 9, .p (.mv), [.t 15], none, 0, 0⟩])))))))
 (.seq (.reg [⟨.t 16, .p (.mv), [.l 3], none, 0, 0⟩, ⟨.l 2, .p (.mv), [.t 16], none, 0, 0⟩])
 .ret)))),
 [.tmp (.l 2)]⟩
theorem cf177_ok : compF TP Tryz.f177 = some cf177 := by kernel_rfl
def cf178 : CF := ⟨3, (.seq (.reg [⟨.l 6, .p (.mv), [.c (.int .i64 0)], none, 0, 0⟩])
 (.seq (.seq (.reg [⟨.t 18, .p (.mv), [.l 2], none, 0, 0⟩, ⟨.t 19, .p (.nilc), [.t 18], none, 0, 0⟩, ⟨.t 20, .p (.fa 3), [.t 19], none, 0, 0⟩, ⟨.l 21, .r (.load false 1), [.t 20], none, 0, 0⟩, ⟨.l 22, .p (.leng .sl), [.l 21], none, 0, 0⟩, ⟨.l 23, .p (.mv), [.c (.int .i64 0)], none, 0, 0⟩])
 (.block 0 (.loop (.seq (.reg [⟨.l 24, .p (.bin .lss), [.l 23, .l 22], none, 0, 0⟩])
 (.seq (.cond (.l 24) .skip
 (.exit 0))
 (.seq (.block 1 (.seq (.reg [⟨.t 25, .p (.ixsl 2), [.l 21, .l 23], none, 0, 0⟩, ⟨.t 26, .r (.load true 2), [.t 25], none, 0, 0⟩, ⟨.l 8, .a (.alloc [(.int .i64 0), (.int .i64 0)]), [], none, 0, 0⟩, ⟨.no, .e (.store 2), [.l 8, .t 26], none, 0, 0⟩])
 (.seq (.reg [⟨.t 28, .p (.mv), [.l 0], none, 0, 0⟩, ⟨.t 29, .p (.mv), [.l 1], none, 0, 0⟩, ⟨.t 30, .r (.load true 2), [.l 8], none, 0, 0⟩, ⟨.t 31, .call 244, [.t 28, .t 29, .t 30], none, 0, 0⟩, ⟨.t 27, .p (.mv), [.t 31], none, 0, 0⟩, ⟨.t 32, .p (.ext 0), [.t 27], none, 0, 0⟩, ⟨.t 33, .p (.ext 1), [.t 27], none, 0, 0⟩, ⟨.t 9, .p (.mv), [.t 32], none, 0, 0⟩, ⟨.l 10, .p (.mv), [.t 33], none, 0, 0⟩])
 (.seq (.reg [⟨.t 34, .p (.mv), [.l 10], none, 0, 0⟩, ⟨.l 35, .p (.bin .neq), [.t 34, .c (.int .i64 0)], none, 0, 0⟩])
 (.cond (.l 35) (.seq (.reg [⟨.t 36, .p (.mv), [.l 10], none, 0, 0⟩, ⟨.l 6, .p (.mv), [.t 36], none, 0, 0⟩])
 .ret)
 .skip)))))
 (.reg [⟨.t 37, .p (.bin .add), [.l 23, .c (.int .i64 1)], none, 0, 0⟩, ⟨.l 23, .p (.mv), [.t 37], none, 0, 0⟩])))))))
 (.seq (.seq (.reg [⟨.t 38, .p (.mv), [.l 2], none, 0, 0⟩, ⟨.t 39, .p (.nilc), [.t 38], none, 0, 0⟩, ⟨.t 40, .p (.fa 9), [.t 39], none, 0, 0⟩, ⟨.l 41, .r (.load false 1), [.t 40], none, 0, 0⟩, ⟨.l 42, .p (.leng .sl), [.l 41], none, 0, 0⟩, ⟨.l 43, .p (.mv), [.c (.int .i64 0)], none, 0, 0⟩])
 (.block 2 (.loop (.seq (.reg [⟨.l 44, .p (.bin .lss), [.l 43, .l 42], none, 0, 0⟩])
 (.seq (.cond (.l 44) .skip
 (.exit 2))
 (.seq (.block 3 (.seq (.reg [⟨.t 45, .p (.ixsl 6), [.l 41, .l 43], none, 0, 0⟩, ⟨.t 46, .r (.load true 6), [.t 45], none, 0, 0⟩, ⟨.l 12, .a (.alloc [(.int .i64 0), (.int .i64 0), (.int .i64 0), (.int .i64 0), (.int .i64 0), (.bool false)]), [], none, 0, 0⟩, ⟨.no, .e (.store 6), [.l 12, .t 46], none, 0, 0⟩])
 (.seq (.seq (.reg [⟨.t 48, .p (.mv), [.l 0], none, 0, 0⟩, ⟨.t 49, .p (.mv), [.l 1], none, 0, 0⟩, ⟨.t 50, .p (.fa 1), [.l 12], none, 0, 0⟩, ⟨.t 51, .r (.load true 2), [.t 50], none, 0, 0⟩, ⟨.t 52, .call 244, [.t 48, .t 49, .t 51], none, 0, 0⟩, ⟨.t 47, .p (.mv), [.t 52], none, 0, 0⟩, ⟨.t 53, .p (.ext 0), [.t 47], none, 0, 0⟩, ⟨.t 54, .p (.ext 1), [.t 47], none, 0, 0⟩, ⟨.t 13, .p (.mv), [.t 53], none, 0, 0⟩, ⟨.l 14, .p (.mv), [.t 54], none, 0, 0⟩])
 (.seq (.reg [⟨.t 55, .p (.mv), [.l 14], none, 0, 0⟩, ⟨.l 56, .p (.bin .neq), [.t 55, .c (.int .i64 0)], none, 0, 0⟩])
 (.cond (.l 56) (.seq (.reg [⟨.t 57, .p (.mv), [.l 14], none, 0, 0⟩, ⟨.l 6, .p (.mv), [.t 57], none, 0, 0⟩])
 .ret)
 .skip)))
 (.seq (.seq (.reg [⟨.t 58, .p (.fa 3), [.l 12], none, 0, 0⟩, ⟨.t 59, .r (.load true 2), [.t 58], none, 0, 0⟩, ⟨.t 60, .p (.build [(.int .i64 0), (.int .i64 0)] []), [], none, 0, 0⟩, ⟨.l 61, .r (.eq (.agg [.i, .i]) false), [.t 59, .t 60], none, 0, 0⟩])
 (.cond (.l 61) (.exit 3)
 .skip))
 (.seq (.reg [⟨.t 63, .p (.mv), [.l 0], none, 0, 0⟩, ⟨.t 64, .p (.mv), [.l 1], none, 0, 0⟩, ⟨.t 65, .p (.fa 3), [.l 12], none, 0, 0⟩, ⟨.t 66, .r (.load true 2), [.t 65], none, 0, 0⟩, ⟨.t 67, .call 244, [.t 63, .t 64, .t 66], none, 0, 0⟩, ⟨.t 62, .p (.mv), [.t 67], none, 0, 0⟩, ⟨.t 68, .p (.ext 0), [.t 62], none, 0, 0⟩, ⟨.t 69, .p (.ext 1), [.t 62], none, 0, 0⟩, ⟨.t 15, .p (.mv), [.t 68], none, 0, 0⟩, ⟨.l 16, .p (.mv), [.t 69], none, 0, 0⟩])
 (.seq (.reg [⟨.t 70, .p (.mv), [.l 16], none, 0, 0⟩, ⟨.l 71, .p (.bin .neq), [.t 70, .c (.int .i64 0)], none, 0, 0⟩])
 (.cond (.l 71) (.seq (.reg [⟨.t 72, .p (.mv), [.l 16], none, 0, 0⟩, ⟨.l 6, .p (.mv), [.t 72], none, 0, 0⟩])
 .ret)
 .skip)))))))
 (.reg [⟨.t 73, .p (.bin .add), [.l 43, .c (.int .i64 1)], none, 0, 0⟩, ⟨.l 43, .p (.mv), [.t 73], none, 0, 0⟩])))))))
 (.seq (.seq (.reg [⟨.t 74, .p (.mv), [.l 0], none, 0, 0⟩, ⟨.t 75, .p (.mv), [.l 2], none, 0, 0⟩, ⟨.l 76, .call 245, [.t 74, .t 75], none, 0, 0⟩, ⟨.l 77, .p (.mv), [.c (.int .i64 0)], none, 0, 0⟩])
 (.block 4 (.loop (.seq (.reg [⟨.l 78, .p (.bin .lss), [.l 77, .l 76], none, 0, 0⟩])
 (.seq (.cond (.l 78) .skip
 (.exit 4))
 (.seq (.block 5 (.seq (.reg [⟨.t 79, .p (.mv), [.l 77], none, 0, 0⟩, ⟨.l 17, .p (.mv), [.t 79], none, 0, 0⟩])
 (.seq (.reg [⟨.t 80, .p (.mv), [.l 1], none, 0, 0⟩, ⟨.t 81, .p (.mv), [.l 17], none, 0, 0⟩, ⟨.t 82, .call 246, [.t 80, .t 81], none, 0, 0⟩, ⟨.l 83, .p (.bin .eql), [.t 82, .c (.int .i64 0)], none, 0, 0⟩])
 (.cond (.l 83) (.seq (.reg [⟨.l 6, .p (.mv), [.c (.int .i64 186)], none, 0, 0⟩])
 .ret)
 .skip))))
 (.reg [⟨.t 84, .p (.bin .add), [.l 77, .c (.int .i64 1)], none, 0, 0⟩, ⟨.l 77, .p (.mv), [.t 84], none, 0, 0⟩])))))))
 (.seq (.regD [⟨.t 85, .p (.mv), [.l 2], none, 0, 0⟩, ⟨.t 86, .p (.nilc), [.t 85], none, 0, 0⟩, ⟨.t 87, .p (.fa 1), [.t 86], none, 0, 0⟩, ⟨.t 88, .p (.fa 0), [.t 87], none, 0, 0⟩, ⟨.t 89, .r (.load false 1), [.t 88], none, 0, 0⟩, ⟨.t 90, .p (.bin .eql), [.t 89, .c (.int .i64 2)], none, 0, 0⟩, ⟨.t 91, .p (.mv), [.t 90], none, 0, 0⟩, ⟨.t 92, .p (.mv), [.l 2], (some (.t 91, true)), 0, 0⟩, ⟨.t 93, .p (.nilc), [.t 92], (some (.t 91, true)), 0, 0⟩, ⟨.t 94, .p (.fa 1), [.t 93], (some (.t 91, true)), 0, 0⟩, ⟨.t 95, .p (.fa 1), [.t 94], (some (.t 91, true)), 0, 0⟩, ⟨.t 96, .r (.load false 1), [.t 95], (some (.t 91, true)), 0, 0⟩, ⟨.t 97, .p (.mv), [.l 1], (some (.t 91, true)), 0, 0⟩, ⟨.t 98, .p (.nilc), [.t 97], (some (.t 91, true)), 0, 0⟩, ⟨.t 99, .p (.fa 0), [.t 98], (some (.t 91, true)), 0, 0⟩, ⟨.t 100, .r (.load false 1), [.t 99], (some (.t 91, true)), 0, 0⟩, ⟨.t 101, .p (.bin .geq), [.t 96, .t 100], (some (.t 91, true)), 0, 0⟩, ⟨.t 102, .p (.pick), [.t 91, .t 101, .c (.bool false)], none, 0, 0⟩, ⟨.t 103, .call 182, [.t 102, .c (.int .i64 181)], none, 0, 1⟩, ⟨.l 6, .p (.mv), [.t 103], none, 1, 1⟩])
 .ret))))),
 [.tmp (.l 6)]⟩
theorem cf178_ok : compF TP Tryz.f178 = some cf178 := by kernel_rfl
def cf179 : CF := ⟨3, (.seq (.reg [⟨.l 6, .p (.mv), [.c (.int .i64 0)], none, 0, 0⟩])
 (.seq (.seq (.reg [⟨.t 11, .p (.mv), [.l 2], none, 0, 0⟩, ⟨.t 12, .p (.nilc), [.t 11], none, 0, 0⟩, ⟨.t 13, .p (.fa 0), [.t 12], none, 0, 0⟩, ⟨.l 14, .r (.load false 1), [.t 13], none, 0, 0⟩])
 (.block 0 (.seq (.reg [⟨.t 16, .p (.bin .eql), [.l 14, .c (.int .i64 5)], none, 0, 0⟩, ⟨.l 15, .p (.mv), [.t 16], none, 0, 0⟩])
 (.cond (.l 15) (.seq (.reg [⟨.t 18, .p (.mv), [.l 0], none, 0, 0⟩, ⟨.t 19, .p (.mv), [.l 1], none, 0, 0⟩, ⟨.t 20, .p (.mv), [.l 2], none, 0, 0⟩, ⟨.t 21, .p (.nilc), [.t 20], none, 0, 0⟩, ⟨.t 22, .p (.fa 3), [.t 21], none, 0, 0⟩, ⟨.t 23, .r (.load false 1), [.t 22], none, 0, 0⟩, ⟨.t 24, .p (.ixsl 2), [.t 23, .c (.int .i64 0)], none, 0, 0⟩, ⟨.t 25, .r (.load true 2), [.t 24], none, 0, 0⟩, ⟨.t 26, .call 244, [.t 18, .t 19, .t 25], none, 0, 0⟩, ⟨.t 17, .p (.mv), [.t 26], none, 0, 0⟩, ⟨.t 27, .p (.ext 0), [.t 17], none, 0, 0⟩, ⟨.t 28, .p (.ext 1), [.t 17], none, 0, 0⟩, ⟨.l 7, .p (.mv), [.t 27], none, 0, 0⟩, ⟨.t 8, .p (.mv), [.t 28], none, 0, 0⟩])
 (.seq (.reg [⟨.t 29, .p (.mv), [.l 7], none, 0, 0⟩, ⟨.t 30, .p (.mv), [.l 2], none, 0, 0⟩, ⟨.t 31, .p (.nilc), [.t 30], none, 0, 0⟩, ⟨.t 32, .p (.fa 5), [.t 31], none, 0, 0⟩, ⟨.t 33, .r (.load false 1), [.t 32], none, 0, 0⟩, ⟨.t 34, .p (.bin .add), [.c (.int .i64 3), .t 33], none, 0, 0⟩, ⟨.t 35, .p (.bin .add), [.t 34, .c (.int .i64 1)], none, 0, 0⟩, ⟨.t 36, .p (.bin .lss), [.t 29, .t 35], none, 0, 0⟩, ⟨.t 37, .call 182, [.t 36, .c (.int .i64 180)], none, 0, 0⟩, ⟨.l 6, .p (.mv), [.t 37], none, 0, 0⟩])
 .ret))
 (.seq (.seq (.reg [⟨.t 39, .p (.bin .eql), [.l 14, .c (.int .i64 6)], none, 0, 0⟩, ⟨.l 38, .p (.mv), [.t 39], none, 0, 0⟩])
 (.cond (.l 38) .skip
 (.reg [⟨.t 40, .p (.bin .eql), [.l 14, .c (.int .i64 7)], none, 0, 0⟩, ⟨.l 38, .p (.mv), [.t 40], none, 0, 0⟩])))
 (.cond (.l 38) (.seq (.reg [⟨.t 42, .p (.mv), [.l 0], none, 0, 0⟩, ⟨.t 43, .p (.mv), [.l 1], none, 0, 0⟩, ⟨.t 44, .p (.mv), [.l 2], none, 0, 0⟩, ⟨.t 45, .p (.nilc), [.t 44], none, 0, 0⟩, ⟨.t 46, .p (.fa 3), [.t 45], none, 0, 0⟩, ⟨.t 47, .r (.load false 1), [.t 46], none, 0, 0⟩, ⟨.t 48, .p (.ixsl 2), [.t 47, .c (.int .i64 0)], none, 0, 0⟩, ⟨.t 49, .r (.load true 2), [.t 48], none, 0, 0⟩, ⟨.t 50, .call 244, [.t 42, .t 43, .t 49], none, 0, 0⟩, ⟨.t 41, .p (.mv), [.t 50], none, 0, 0⟩, ⟨.t 51, .p (.ext 0), [.t 41], none, 0, 0⟩, ⟨.t 52, .p (.ext 1), [.t 41], none, 0, 0⟩, ⟨.l 9, .p (.mv), [.t 51], none, 0, 0⟩, ⟨.t 10, .p (.mv), [.t 52], none, 0, 0⟩])
 (.seq (.reg [⟨.t 53, .p (.mv), [.l 9], none, 0, 0⟩, ⟨.t 54, .p (.bin .neq), [.t 53, .c (.int .i64 2)], none, 0, 0⟩, ⟨.t 55, .call 182, [.t 54, .c (.int .i64 180)], none, 0, 0⟩, ⟨.l 6, .p (.mv), [.t 55], none, 0, 0⟩])
 .ret))
 .skip))))))
 (.seq (.reg [⟨.l 6, .p (.mv), [.c (.int .i64 0)], none, 0, 0⟩])
 .ret))),
 [.tmp (.l 6)]⟩
theorem cf179_ok : compF TP Tryz.f179 = some cf179 := by kernel_rfl
def cf180 : CF := ⟨3, (.seq (.reg [⟨.l 6, .p (.mv), [.c (.int .i64 0)], none, 0, 0⟩])
 (.seq (.seq (.reg [⟨.t 7, .p (.mv), [.l 2], none, 0, 0⟩, ⟨.t 8, .p (.nilc), [.t 7], none, 0, 0⟩, ⟨.t 9, .p (.fa 0), [.t 8], none, 0, 0⟩, ⟨.l 10, .r (.load false 1), [.t 9], none, 0, 0⟩])
 (.block 0 (.seq (.seq (.reg [⟨.t 12, .p (.bin .eql), [.l 10, .c (.int .i64 37)], none, 0, 0⟩, ⟨.l 11, .p (.mv), [.t 12], none, 0, 0⟩])
 (.cond (.l 11) .skip
 (.reg [⟨.t 13, .p (.bin .eql), [.l 10, .c (.int .i64 40)], none, 0, 0⟩, ⟨.l 11, .p (.mv), [.t 13], none, 0, 0⟩])))
 (.cond (.l 11) (.seq (.reg [⟨.t 14, .p (.mv), [.l 1], none, 0, 0⟩, ⟨.t 15, .p (.nilc), [.t 14], none, 0, 0⟩, ⟨.t 16, .p (.fa 5), [.t 15], none, 0, 0⟩, ⟨.t 17, .r (.load false 1), [.t 16], none, 0, 0⟩, ⟨.t 18, .p (.bin .neq), [.t 17, .c (.int .i64 1)], none, 0, 0⟩, ⟨.t 19, .call 182, [.t 18, .c (.int .i64 184)], none, 0, 0⟩, ⟨.l 6, .p (.mv), [.t 19], none, 0, 0⟩])
 .ret)
 (.seq (.seq (.reg [⟨.t 21, .p (.bin .eql), [.l 10, .c (.int .i64 38)], none, 0, 0⟩, ⟨.l 20, .p (.mv), [.t 21], none, 0, 0⟩])
 (.cond (.l 20) .skip
 (.reg [⟨.t 22, .p (.bin .eql), [.l 10, .c (.int .i64 39)], none, 0, 0⟩, ⟨.l 20, .p (.mv), [.t 22], none, 0, 0⟩])))
 (.cond (.l 20) (.seq (.reg [⟨.t 23, .p (.mv), [.l 1], none, 0, 0⟩, ⟨.t 24, .p (.nilc), [.t 23], none, 0, 0⟩, ⟨.t 25, .p (.fa 5), [.t 24], none, 0, 0⟩, ⟨.t 26, .r (.load false 1), [.t 25], none, 0, 0⟩, ⟨.t 27, .p (.bin .neq), [.t 26, .c (.int .i64 2)], none, 0, 0⟩, ⟨.t 28, .call 182, [.t 27, .c (.int .i64 184)], none, 0, 0⟩, ⟨.l 6, .p (.mv), [.t 28], none, 0, 0⟩])
 .ret)
 (.seq (.seq (.reg [⟨.t 30, .p (.bin .eql), [.l 10, .c (.int .i64 1)], none, 0, 0⟩, ⟨.l 29, .p (.mv), [.t 30], none, 0, 0⟩])
 (.cond (.l 29) .skip
 (.seq (.reg [⟨.t 31, .p (.bin .eql), [.l 10, .c (.int .i64 5)], none, 0, 0⟩, ⟨.l 29, .p (.mv), [.t 31], none, 0, 0⟩])
 (.cond (.l 29) .skip
 (.seq (.reg [⟨.t 32, .p (.bin .eql), [.l 10, .c (.int .i64 6)], none, 0, 0⟩, ⟨.l 29, .p (.mv), [.t 32], none, 0, 0⟩])
 (.cond (.l 29) .skip
 (.seq (.reg [⟨.t 33, .p (.bin .eql), [.l 10, .c (.int .i64 7)], none, 0, 0⟩, ⟨.l 29, .p (.mv), [.t 33], none, 0, 0⟩])
 (.cond (.l 29) .skip
 (.seq (.reg [⟨.t 34, .p (.bin .eql), [.l 10, .c (.int .i64 8)], none, 0, 0⟩, ⟨.l 29, .p (.mv), [.t 34], none, 0, 0⟩])
 (.cond (.l 29) .skip
 (.seq (.reg [⟨.t 35, .p (.bin .eql), [.l 10, .c (.int .i64 9)], none, 0, 0⟩, ⟨.l 29, .p (.mv), [.t 35], none, 0, 0⟩])
 (.cond (.l 29) .skip
 (.seq (.reg [⟨.t 36, .p (.bin .eql), [.l 10, .c (.int .i64 10)], none, 0, 0⟩, ⟨.l 29, .p (.mv), [.t 36], none, 0, 0⟩])
 (.cond (.l 29) .skip
 (.seq (.reg [⟨.t 37, .p (.bin .eql), [.l 10, .c (.int .i64 11)], none, 0, 0⟩, ⟨.l 29, .p (.mv), [.t 37], none, 0, 0⟩])
 (.cond (.l 29) .skip
 (.seq (.reg [⟨.t 38, .p (.bin .eql), [.l 10, .c (.int .i64 12)], none, 0, 0⟩, ⟨.l 29, .p (.mv), [.t 38], none, 0, 0⟩])
 (.cond (.l 29) .skip
 (.reg [⟨.t 39, .p (.bin .eql), [.l 10, .c (.int .i64 13)], none, 0, 0⟩, ⟨.l 29, .p (.mv), [.t 39], none, 0, 0⟩])))))))))))))))))))
 (.cond (.l 29) (.seq (.reg [⟨.l 6, .p (.mv), [.c (.int .i64 0)], none, 0, 0⟩])
 .ret)
 (.seq (.seq (.reg [⟨.t 41, .p (.bin .eql), [.l 10, .c (.int .i64 30)], none, 0, 0⟩, ⟨.l 40, .p (.mv), [.t 41], none, 0, 0⟩])
 (.cond (.l 40) .skip
 (.seq (.reg [⟨.t 42, .p (.bin .eql), [.l 10, .c (.int .i64 31)], none, 0, 0⟩, ⟨.l 40, .p (.mv), [.t 42], none, 0, 0⟩])
 (.cond (.l 40) .skip
 (.seq (.reg [⟨.t 43, .p (.bin .eql), [.l 10, .c (.int .i64 32)], none, 0, 0⟩, ⟨.l 40, .p (.mv), [.t 43], none, 0, 0⟩])
 (.cond (.l 40) .skip
 (.seq (.reg [⟨.t 44, .p (.bin .eql), [.l 10, .c (.int .i64 33)], none, 0, 0⟩, ⟨.l 40, .p (.mv), [.t 44], none, 0, 0⟩])
 (.cond (.l 40) .skip
 (.reg [⟨.t 45, .p (.bin .eql), [.l 10, .c (.int .i64 34)], none, 0, 0⟩, ⟨.l 40, .p (.mv), [.t 45], none, 0, 0⟩])))))))))
 (.cond (.l 40) (.seq (.reg [⟨.l 6, .p (.mv), [.c (.int .i64 0)], none, 0, 0⟩])
 .ret)
 .skip))))))))))
 (.seq (.reg [⟨.t 46, .p (.mv), [.l 1], none, 0, 0⟩, ⟨.t 47, .p (.nilc), [.t 46], none, 0, 0⟩, ⟨.t 48, .p (.fa 5), [.t 47], none, 0, 0⟩, ⟨.t 49, .r (.load false 1), [.t 48], none, 0, 0⟩, ⟨.t 50, .p (.bin .neq), [.t 49, .c (.int .i64 0)], none, 0, 0⟩, ⟨.t 51, .call 182, [.t 50, .c (.int .i64 184)], none, 0, 0⟩, ⟨.l 6, .p (.mv), [.t 51], none, 0, 0⟩])
 .ret))),
 [.tmp (.l 6)]⟩
theorem cf180_ok : compF TP Tryz.f180 = some cf180 := by kernel_rfl
def cf181 : CF := ⟨3, (.seq (.reg [⟨.l 6, .p (.mv), [.c (.int .i64 0)], none, 0, 0⟩])
 (.seq (.reg [⟨.t 7, .p (.mv), [.l 1], none, 0, 0⟩, ⟨.t 8, .p (.nilc), [.t 7], none, 0, 0⟩, ⟨.t 9, .p (.fa 4), [.t 8], none, 0, 0⟩, ⟨.t 10, .r (.load false 1), [.t 9], none, 0, 0⟩, ⟨.t 11, .p (.un .not), [.t 10], none, 0, 0⟩, ⟨.t 12, .p (.mv), [.t 11], none, 0, 0⟩, ⟨.t 13, .p (.mv), [.l 2], (some (.t 12, true)), 0, 0⟩, ⟨.t 14, .p (.nilc), [.t 13], (some (.t 12, true)), 0, 0⟩, ⟨.t 15, .p (.fa 0), [.t 14], (some (.t 12, true)), 0, 0⟩, ⟨.t 16, .r (.load false 1), [.t 15], (some (.t 12, true)), 0, 0⟩, ⟨.t 17, .p (.bin .geq), [.t 16, .c (.int .i64 31)], (some (.t 12, true)), 0, 0⟩, ⟨.t 18, .p (.pick), [.t 12, .t 17, .c (.bool false)], none, 0, 0⟩, ⟨.t 19, .p (.mv), [.t 18], none, 0, 0⟩, ⟨.t 20, .p (.mv), [.l 2], (some (.t 19, true)), 0, 0⟩, ⟨.t 21, .p (.nilc), [.t 20], (some (.t 19, true)), 0, 0⟩, ⟨.t 22, .p (.fa 0), [.t 21], (some (.t 19, true)), 0, 0⟩, ⟨.t 23, .r (.load false 1), [.t 22], (some (.t 19, true)), 0, 0⟩, ⟨.t 24, .p (.bin .leq), [.t 23, .c (.int .i64 34)], (some (.t 19, true)), 0, 0⟩, ⟨.t 25, .p (.pick), [.t 19, .t 24, .c (.bool false)], none, 0, 0⟩, ⟨.t 26, .call 182, [.t 25, .c (.int .i64 183)], none, 0, 0⟩, ⟨.l 6, .p (.mv), [.t 26], none, 0, 0⟩])
 .ret)),
 [.tmp (.l 6)]⟩
theorem cf181_ok : compF TP Tryz.f181 = some cf181 := by kernel_rfl
def cf182 : CF := ⟨2, (.seq (.reg [⟨.l 4, .p (.mv), [.c (.int .i64 0)], none, 0, 0⟩])
 (.seq (.seq (.reg [⟨.l 5, .p (.mv), [.l 0], none, 0, 0⟩])
 (.cond (.l 5) (.seq (.reg [⟨.t 6, .p (.mv), [.l 1], none, 0, 0⟩, ⟨.l 4, .p (.mv), [.t 6], none, 0, 0⟩])
 .ret)
 .skip))
 (.seq (.reg [⟨.l 4, .p (.mv), [.c (.int .i64 0)], none, 0, 0⟩])
 .ret))),
 [.tmp (.l 4)]⟩
theorem cf182_ok : compF TP Tryz.f182 = some cf182 := by kernel_rfl
def cf183 : CF := ⟨3, (.seq (.reg [⟨.l 6, .p (.mv), [.c (.int .i64 0)], none, 0, 0⟩])
 (.seq (.reg [⟨.t 8, .p (.mv), [.l 1], none, 0, 0⟩, ⟨.t 9, .p (.nilc), [.t 8], none, 0, 0⟩, ⟨.t 10, .p (.fa 0), [.t 9], none, 0, 0⟩, ⟨.t 11, .r (.load false 1), [.t 10], none, 0, 0⟩, ⟨.t 12, .p (.bin .geq), [.t 11, .c (.int .i64 0)], none, 0, 0⟩, ⟨.l 7, .p (.mv), [.t 12], none, 0, 0⟩])
 (.seq (.reg [⟨.t 13, .p (.mv), [.l 7], none, 0, 0⟩, ⟨.t 14, .p (.mv), [.t 13], none, 0, 0⟩, ⟨.t 15, .p (.mv), [.l 2], (some (.t 14, true)), 0, 0⟩, ⟨.t 16, .p (.nilc), [.t 15], (some (.t 14, true)), 0, 0⟩, ⟨.t 17, .p (.fa 0), [.t 16], (some (.t 14, true)), 0, 0⟩, ⟨.t 18, .r (.load false 1), [.t 17], (some (.t 14, true)), 0, 0⟩, ⟨.t 19, .p (.bin .eql), [.t 18, .c (.int .i64 24)], (some (.t 14, true)), 0, 0⟩, ⟨.t 20, .p (.mv), [.t 19], (some (.t 14, true)), 0, 0⟩, ⟨.t 21, .p (.mv), [.l 2], (some (.t 20, false)), 0, 0⟩, ⟨.t 22, .p (.nilc), [.t 21], (some (.t 20, false)), 0, 0⟩, ⟨.t 23, .p (.fa 0), [.t 22], (some (.t 20, false)), 0, 0⟩, ⟨.t 24, .r (.load false 1), [.t 23], (some (.t 20, false)), 0, 0⟩, ⟨.t 25, .call 184, [.t 24], (some (.t 20, false)), 0, 0⟩, ⟨.t 26, .p (.pick), [.t 20, .c (.bool true), .t 25], (some (.t 14, true)), 0, 0⟩, ⟨.t 27, .p (.pick), [.t 14, .t 26, .c (.bool false)], none, 0, 0⟩, ⟨.t 28, .p (.mv), [.t 27], none, 0, 0⟩, ⟨.t 29, .p (.mv), [.l 7], (some (.t 28, false)), 0, 0⟩, ⟨.t 30, .p (.un .not), [.t 29], (some (.t 28, false)), 0, 0⟩, ⟨.t 31, .p (.mv), [.t 30], (some (.t 28, false)), 0, 0⟩, ⟨.t 32, .p (.mv), [.l 2], (some (.t 31, true)), 0, 0⟩, ⟨.t 33, .p (.nilc), [.t 32], (some (.t 31, true)), 0, 0⟩, ⟨.t 34, .p (.fa 0), [.t 33], (some (.t 31, true)), 0, 0⟩, ⟨.t 35, .r (.load false 1), [.t 34], (some (.t 31, true)), 0, 0⟩, ⟨.t 36, .p (.bin .eql), [.t 35, .c (.int .i64 25)], (some (.t 31, true)), 0, 0⟩, ⟨.t 37, .p (.pick), [.t 31, .t 36, .c (.bool false)], (some (.t 28, false)), 0, 0⟩, ⟨.t 38, .p (.pick), [.t 28, .c (.bool true), .t 37], none, 0, 0⟩, ⟨.t 39, .call 182, [.t 38, .c (.int .i64 181)], none, 0, 0⟩, ⟨.l 6, .p (.mv), [.t 39], none, 0, 0⟩])
 .ret))),
 [.tmp (.l 6)]⟩
theorem cf183_ok : compF TP Tryz.f183 = some cf183 := by kernel_rfl
def cf184 : CF := ⟨1, (.seq (.reg [⟨.l 2, .p (.mv), [.c (.bool false)], none, 0, 0⟩])
 (.seq (.seq (.reg [⟨.l 3, .p (.mv), [.l 0], none, 0, 0⟩])
 (.block 0 (.seq (.seq (.reg [⟨.t 5, .p (.bin .eql), [.l 3, .c (.int .i64 26)], none, 0, 0⟩, ⟨.l 4, .p (.mv), [.t 5], none, 0, 0⟩])
 (.cond (.l 4) .skip
 (.seq (.reg [⟨.t 6, .p (.bin .eql), [.l 3, .c (.int .i64 17)], none, 0, 0⟩, ⟨.l 4, .p (.mv), [.t 6], none, 0, 0⟩])
 (.cond (.l 4) .skip
 (.seq (.reg [⟨.t 7, .p (.bin .eql), [.l 3, .c (.int .i64 19)], none, 0, 0⟩, ⟨.l 4, .p (.mv), [.t 7], none, 0, 0⟩])
 (.cond (.l 4) .skip
 (.seq (.reg [⟨.t 8, .p (.bin .eql), [.l 3, .c (.int .i64 21)], none, 0, 0⟩, ⟨.l 4, .p (.mv), [.t 8], none, 0, 0⟩])
 (.cond (.l 4) .skip
 (.reg [⟨.t 9, .p (.bin .eql), [.l 3, .c (.int .i64 23)], none, 0, 0⟩, ⟨.l 4, .p (.mv), [.t 9], none, 0, 0⟩])))))))))
 (.cond (.l 4) (.seq (.reg [⟨.l 2, .p (.mv), [.c (.bool true)], none, 0, 0⟩])
 .ret)
 .skip))))
 (.seq (.reg [⟨.l 2, .p (.mv), [.c (.bool false)], none, 0, 0⟩])
 .ret))),
 [.tmp (.l 2)]⟩
theorem cf184_ok : compF TP Tryz.f184 = some cf184 := by kernel_rfl
def cf185 : CF := ⟨3, (.seq (.reg [⟨.l 6, .p (.mv), [.c (.int .i64 0)], none, 0, 0⟩])
 (.seq (.reg [⟨.t 8, .p (.mv), [.l 1], none, 0, 0⟩, ⟨.t 9, .p (.nilc), [.t 8], none, 0, 0⟩, ⟨.t 10, .p (.fa 3), [.t 9], none, 0, 0⟩, ⟨.t 11, .r (.load false 1), [.t 10], none, 0, 0⟩, ⟨.t 12, .p (.leng .sl), [.t 11], none, 0, 0⟩, ⟨.l 7, .p (.mv), [.t 12], none, 0, 0⟩])
 (.seq (.seq (.reg [⟨.t 13, .p (.mv), [.l 7], none, 0, 0⟩, ⟨.l 14, .p (.bin .eql), [.t 13, .c (.int .i64 0)], none, 0, 0⟩])
 (.cond (.l 14) (.seq (.reg [⟨.t 15, .p (.mv), [.l 2], none, 0, 0⟩, ⟨.t 16, .p (.nilc), [.t 15], none, 0, 0⟩, ⟨.t 17, .p (.fa 0), [.t 16], none, 0, 0⟩, ⟨.t 18, .r (.load false 1), [.t 17], none, 0, 0⟩, ⟨.t 19, .p (.bin .eql), [.t 18, .c (.int .i64 29)], none, 0, 0⟩, ⟨.t 20, .call 182, [.t 19, .c (.int .i64 182)], none, 0, 0⟩, ⟨.l 6, .p (.mv), [.t 20], none, 0, 0⟩])
 .ret)
 .skip))
 (.seq (.regD [⟨.t 21, .p (.mv), [.l 2], none, 0, 0⟩, ⟨.t 22, .p (.nilc), [.t 21], none, 0, 0⟩, ⟨.t 23, .p (.fa 0), [.t 22], none, 0, 0⟩, ⟨.t 24, .r (.load false 1), [.t 23], none, 0, 0⟩, ⟨.t 25, .call 184, [.t 24], none, 0, 1⟩, ⟨.t 26, .p (.mv), [.t 25], none, 1, 1⟩, ⟨.t 27, .p (.mv), [.l 2], (some (.t 26, false)), 1, 1⟩, ⟨.t 28, .p (.nilc), [.t 27], (some (.t 26, false)), 1, 1⟩, ⟨.t 29, .p (.fa 0), [.t 28], (some (.t 26, false)), 1, 1⟩, ⟨.t 30, .r (.load false 1), [.t 29], (some (.t 26, false)), 1, 1⟩, ⟨.t 31, .call 186, [.t 30], (some (.t 26, false)), 1, 2⟩, ⟨.t 32, .p (.mv), [.t 31], (some (.t 26, false)), 2, 2⟩, ⟨.t 33, .p (.mv), [.l 1], (some (.t 32, true)), 2, 2⟩, ⟨.t 34, .p (.nilc), [.t 33], (some (.t 32, true)), 2, 2⟩, ⟨.t 35, .p (.fa 3), [.t 34], (some (.t 32, true)), 2, 2⟩, ⟨.t 36, .r (.load false 1), [.t 35], (some (.t 32, true)), 2, 2⟩, ⟨.t 37, .p (.mv), [.l 7], (some (.t 32, true)), 2, 2⟩, ⟨.t 38, .p (.bin .sub), [.t 37, .c (.int .i64 1)], (some (.t 32, true)), 2, 2⟩, ⟨.t 39, .p (.ixsl 1), [.t 36, .t 38], (some (.t 32, true)), 2, 2⟩, ⟨.t 40, .r (.load false 1), [.t 39], (some (.t 32, true)), 2, 2⟩, ⟨.t 41, .p (.mv), [.l 0], (some (.t 32, true)), 2, 2⟩, ⟨.t 42, .p (.nilc), [.t 41], (some (.t 32, true)), 2, 2⟩, ⟨.t 43, .p (.fa 2), [.t 42], (some (.t 32, true)), 2, 2⟩, ⟨.t 44, .r (.load false 1), [.t 43], (some (.t 32, true)), 2, 2⟩, ⟨.t 45, .p (.bin .leq), [.t 40, .t 44], (some (.t 32, true)), 2, 2⟩, ⟨.t 46, .p (.pick), [.t 32, .t 45, .c (.bool false)], (some (.t 26, false)), 2, 2⟩, ⟨.t 47, .p (.pick), [.t 26, .c (.bool true), .t 46], none, 2, 2⟩, ⟨.t 48, .call 182, [.t 47, .c (.int .i64 182)], none, 2, 3⟩, ⟨.l 6, .p (.mv), [.t 48], none, 3, 3⟩])
 .ret)))),
 [.tmp (.l 6)]⟩
theorem cf185_ok : compF TP Tryz.f185 = some cf185 := by kernel_rfl
def cf187 : CF := ⟨3, (.seq (.reg [⟨.l 6, .p (.mv), [.c .nilp], none, 0, 0⟩, ⟨.l 7, .p (.mv), [.c .nilp], none, 0, 0⟩])
 (.seq (.reg [⟨.t 13, .p (.mv), [.l 0], none, 0, 0⟩, ⟨.t 14, .p (.mv), [.l 1], none, 0, 0⟩, ⟨.t 15, .p (.mv), [.l 2], none, 0, 0⟩, ⟨.t 16, .call 247, [.t 13, .t 14, .t 15], none, 0, 0⟩, ⟨.l 8, .p (.mv), [.t 16], none, 0, 0⟩])
 (.seq (.seq (.regD [⟨.t 17, .p (.mv), [.l 2], none, 0, 0⟩, ⟨.t 18, .p (.nilc), [.t 17], none, 0, 0⟩, ⟨.t 19, .p (.fa 0), [.t 18], none, 0, 0⟩, ⟨.t 20, .r (.load false 1), [.t 19], none, 0, 0⟩, ⟨.t 21, .call 248, [.t 20], none, 0, 1⟩, ⟨.t 22, .p (.mv), [.t 21], none, 1, 1⟩, ⟨.t 23, .p (.mv), [.l 1], (some (.t 22, true)), 1, 1⟩, ⟨.t 24, .p (.nilc), [.t 23], (some (.t 22, true)), 1, 1⟩, ⟨.t 25, .p (.fa 1), [.t 24], (some (.t 22, true)), 1, 1⟩, ⟨.t 26, .r (.load false 1), [.t 25], (some (.t 22, true)), 1, 1⟩, ⟨.t 27, .p (.leng .sl), [.t 26], (some (.t 22, true)), 1, 1⟩, ⟨.t 28, .p (.mv), [.l 2], (some (.t 22, true)), 1, 1⟩, ⟨.t 29, .p (.nilc), [.t 28], (some (.t 22, true)), 1, 1⟩, ⟨.t 30, .p (.fa 6), [.t 29], (some (.t 22, true)), 1, 1⟩, ⟨.t 31, .r (.load false 1), [.t 30], (some (.t 22, true)), 1, 1⟩, ⟨.t 32, .p (.bin .gtr), [.t 27, .t 31], (some (.t 22, true)), 1, 1⟩, ⟨.l 33, .p (.pick), [.t 22, .t 32, .c (.bool false)], none, 1, 1⟩])
 (.cond (.l 33) (.seq (.reg [⟨.t 34, .p (.mv), [.l 1], none, 0, 0⟩, ⟨.t 35, .p (.nilc), [.t 34], none, 0, 0⟩, ⟨.t 36, .r (.load true 7), [.t 35], none, 0, 0⟩, ⟨.l 9, .a (.alloc [(.int .i64 0), .nils, .nils, .nils, (.bool false), (.int .i64 0), (.int .i64 0)]), [], none, 0, 0⟩, ⟨.no, .e (.store 7), [.l 9, .t 36], none, 0, 0⟩])
 (.seq (.regD [⟨.t 37, .p (.mv), [.l 1], none, 0, 0⟩, ⟨.t 38, .p (.nilc), [.t 37], none, 0, 0⟩, ⟨.t 39, .p (.fa 1), [.t 38], none, 0, 0⟩, ⟨.t 40, .r (.load false 1), [.t 39], none, 0, 0⟩, ⟨.t 41, .p (.mv), [.l 2], none, 0, 0⟩, ⟨.t 42, .p (.nilc), [.t 41], none, 0, 0⟩, ⟨.t 43, .p (.fa 6), [.t 42], none, 0, 0⟩, ⟨.t 44, .r (.load false 1), [.t 43], none, 0, 0⟩, ⟨.t 45, .p (.slc (.sl 1) false true false), [.t 40, .t 44], none, 0, 0⟩, ⟨.t 46, .call 243, [.t 45], none, 0, 1⟩, ⟨.t 47, .p (.fa 1), [.l 9], none, 1, 1⟩, ⟨.no, .e (.store 1), [.t 47, .t 46], none, 1, 2⟩])
 (.reg [⟨.l 1, .p (.mv), [.l 9], none, 0, 0⟩])))
 .skip))
 (.seq (.reg [⟨.t 48, .p (.mv), [.l 1], none, 0, 0⟩, ⟨.t 49, .p (.mv), [.l 1], none, 0, 0⟩, ⟨.l 6, .p (.mv), [.t 48], none, 0, 0⟩, ⟨.l 7, .p (.mv), [.t 49], none, 0, 0⟩])
 (.seq (.seq (.reg [⟨.t 50, .p (.mv), [.l 2], none, 0, 0⟩, ⟨.t 51, .p (.nilc), [.t 50], none, 0, 0⟩, ⟨.t 52, .p (.fa 1), [.t 51], none, 0, 0⟩, ⟨.t 53, .p (.fa 0), [.t 52], none, 0, 0⟩, ⟨.t 54, .r (.load false 1), [.t 53], none, 0, 0⟩, ⟨.l 55, .p (.bin .neq), [.t 54, .c (.int .i64 0)], none, 0, 0⟩])
 (.cond (.l 55) (.reg [⟨.t 56, .p (.mv), [.l 1], none, 0, 0⟩, ⟨.t 57, .p (.mv), [.l 2], none, 0, 0⟩, ⟨.t 58, .p (.nilc), [.t 57], none, 0, 0⟩, ⟨.t 59, .p (.fa 1), [.t 58], none, 0, 0⟩, ⟨.t 60, .r (.load true 2), [.t 59], none, 0, 0⟩, ⟨.t 61, .p (.mv), [.l 8], none, 0, 0⟩, ⟨.t 62, .call 249, [.t 56, .t 60, .t 61], none, 0, 0⟩, ⟨.l 6, .p (.mv), [.t 62], none, 0, 0⟩])
 .skip))
 (.seq (.reg [⟨.t 63, .p (.mv), [.l 6], none, 0, 0⟩, ⟨.t 64, .p (.nilc), [.t 63], none, 0, 0⟩, ⟨.t 65, .r (.load true 7), [.t 64], none, 0, 0⟩, ⟨.l 10, .a (.alloc [(.int .i64 0), .nils, .nils, .nils, (.bool false), (.int .i64 0), (.int .i64 0)]), [], none, 0, 0⟩, ⟨.no, .e (.store 7), [.l 10, .t 65], none, 0, 0⟩])
 (.seq (.seq (.reg [⟨.t 66, .p (.mv), [.l 2], none, 0, 0⟩, ⟨.t 67, .p (.nilc), [.t 66], none, 0, 0⟩, ⟨.t 68, .p (.fa 0), [.t 67], none, 0, 0⟩, ⟨.l 69, .r (.load false 1), [.t 68], none, 0, 0⟩])
 (.block 0 (.seq (.reg [⟨.t 73, .p (.bin .eql), [.l 69, .c (.int .i64 9)], none, 0, 0⟩, ⟨.l 72, .p (.mv), [.t 73], none, 0, 0⟩])
 (.cond (.l 72) (.seq (.regD [⟨.t 74, .p (.mv), [.l 1], none, 0, 0⟩, ⟨.t 75, .p (.mv), [.l 2], none, 0, 0⟩, ⟨.t 76, .p (.nilc), [.t 75], none, 0, 0⟩, ⟨.t 77, .p (.fa 3), [.t 76], none, 0, 0⟩, ⟨.t 78, .r (.load false 1), [.t 77], none, 0, 0⟩, ⟨.t 79, .p (.ixsl 2), [.t 78, .c (.int .i64 0)], none, 0, 0⟩, ⟨.t 80, .r (.load true 2), [.t 79], none, 0, 0⟩, ⟨.t 81, .p (.mv), [.l 2], none, 0, 0⟩, ⟨.t 82, .p (.nilc), [.t 81], none, 0, 0⟩, ⟨.t 83, .p (.fa 5), [.t 82], none, 0, 0⟩, ⟨.t 84, .r (.load false 1), [.t 83], none, 0, 0⟩, ⟨.t 85, .p (.bin .add), [.c (.int .i64 3), .t 84], none, 0, 0⟩, ⟨.t 87, .p (.mv), [.l 7], none, 0, 1⟩, ⟨.t 86, .call 249, [.t 74, .t 80, .t 85], none, 0, 1⟩, ⟨.l 6, .p (.mv), [.t 86], none, 1, 1⟩, ⟨.l 7, .p (.mv), [.t 87], none, 1, 1⟩])
 .ret)
 (.seq (.reg [⟨.t 89, .p (.bin .eql), [.l 69, .c (.int .i64 10)], none, 0, 0⟩, ⟨.l 88, .p (.mv), [.t 89], none, 0, 0⟩])
 (.cond (.l 88) (.seq (.reg [⟨.t 90, .p (.mv), [.l 1], none, 0, 0⟩, ⟨.t 91, .p (.mv), [.l 2], none, 0, 0⟩, ⟨.t 92, .p (.nilc), [.t 91], none, 0, 0⟩, ⟨.t 93, .p (.fa 3), [.t 92], none, 0, 0⟩, ⟨.t 94, .r (.load false 1), [.t 93], none, 0, 0⟩, ⟨.t 95, .p (.ixsl 2), [.t 94, .c (.int .i64 0)], none, 0, 0⟩, ⟨.t 96, .r (.load true 2), [.t 95], none, 0, 0⟩, ⟨.t 97, .call 249, [.t 90, .t 96, .c (.int .i64 2)], none, 0, 0⟩, ⟨.t 98, .p (.mv), [.l 7], none, 0, 0⟩, ⟨.l 6, .p (.mv), [.t 97], none, 0, 0⟩, ⟨.l 7, .p (.mv), [.t 98], none, 0, 0⟩])
 .ret)
 (.seq (.seq (.reg [⟨.t 100, .p (.bin .eql), [.l 69, .c (.int .i64 15)], none, 0, 0⟩, ⟨.l 99, .p (.mv), [.t 100], none, 0, 0⟩])
 (.cond (.l 99) .skip
 (.seq (.reg [⟨.t 101, .p (.bin .eql), [.l 69, .c (.int .i64 16)], none, 0, 0⟩, ⟨.l 99, .p (.mv), [.t 101], none, 0, 0⟩])
 (.cond (.l 99) .skip
 (.seq (.reg [⟨.t 102, .p (.bin .eql), [.l 69, .c (.int .i64 18)], none, 0, 0⟩, ⟨.l 99, .p (.mv), [.t 102], none, 0, 0⟩])
 (.cond (.l 99) .skip
 (.seq (.reg [⟨.t 103, .p (.bin .eql), [.l 69, .c (.int .i64 20)], none, 0, 0⟩, ⟨.l 99, .p (.mv), [.t 103], none, 0, 0⟩])
 (.cond (.l 99) .skip
 (.reg [⟨.t 104, .p (.bin .eql), [.l 69, .c (.int .i64 22)], none, 0, 0⟩, ⟨.l 99, .p (.mv), [.t 104], none, 0, 0⟩])))))))))
 (.cond (.l 99) (.seq (.reg [⟨.t 105, .p (.mv), [.l 1], none, 0, 0⟩, ⟨.t 106, .call 250, [.t 105], none, 0, 0⟩, ⟨.t 107, .p (.mv), [.l 7], none, 0, 0⟩, ⟨.l 6, .p (.mv), [.t 106], none, 0, 0⟩, ⟨.l 7, .p (.mv), [.t 107], none, 0, 0⟩])
 .ret)
 (.seq (.reg [⟨.t 109, .p (.bin .eql), [.l 69, .c (.int .i64 37)], none, 0, 0⟩, ⟨.l 108, .p (.mv), [.t 109], none, 0, 0⟩])
 (.cond (.l 108) (.seq (.reg [⟨.t 110, .p (.mv), [.l 1], none, 0, 0⟩, ⟨.t 111, .call 250, [.t 110], none, 0, 0⟩, ⟨.l 6, .p (.mv), [.t 111], none, 0, 0⟩])
 (.seq (.reg [⟨.t 112, .p (.mv), [.l 6], none, 0, 0⟩, ⟨.t 113, .p (.mv), [.l 6], none, 0, 0⟩, ⟨.t 114, .p (.mv), [.l 1], none, 0, 0⟩, ⟨.t 115, .p (.nilc), [.t 114], none, 0, 0⟩, ⟨.t 116, .p (.fa 2), [.t 115], none, 0, 0⟩, ⟨.t 117, .r (.load false 1), [.t 116], none, 0, 0⟩, ⟨.t 118, .p (.leng .sl), [.t 117], none, 0, 0⟩, ⟨.t 119, .call 177, [.t 118], none, 0, 0⟩, ⟨.t 120, .p (.nilc), [.t 112], none, 0, 0⟩, ⟨.t 121, .p (.fa 2), [.t 120], none, 0, 0⟩, ⟨.no, .e (.store 1), [.t 121, .t 119], none, 0, 0⟩, ⟨.t 122, .p (.nilc), [.t 113], none, 0, 0⟩, ⟨.t 123, .p (.fa 5), [.t 122], none, 0, 0⟩, ⟨.no, .e (.store 1), [.t 123, .c (.int .i64 2)], none, 0, 0⟩])
 (.seq (.reg [⟨.t 124, .p (.mv), [.l 6], none, 0, 0⟩, ⟨.t 125, .p (.nilc), [.t 124], none, 0, 0⟩, ⟨.t 126, .r (.load true 7), [.t 125], none, 0, 0⟩, ⟨.l 11, .a (.alloc [(.int .i64 0), .nils, .nils, .nils, (.bool false), (.int .i64 0), (.int .i64 0)]), [], none, 0, 0⟩, ⟨.no, .e (.store 7), [.l 11, .t 126], none, 0, 0⟩])
 (.seq (.reg [⟨.t 127, .p (.fa 1), [.l 11], none, 0, 0⟩, ⟨.no, .e (.store 1), [.t 127, .c .nils], none, 0, 0⟩, ⟨.t 128, .p (.fa 5), [.l 11], none, 0, 0⟩, ⟨.no, .e (.store 1), [.t 128, .c (.int .i64 1)], none, 0, 0⟩])
 (.seq (.reg [⟨.t 129, .p (.mv), [.l 6], none, 0, 0⟩, ⟨.l 6, .p (.mv), [.t 129], none, 0, 0⟩, ⟨.l 7, .p (.mv), [.l 11], none, 0, 0⟩])
 .ret)))))
 (.seq (.reg [⟨.t 131, .p (.bin .eql), [.l 69, .c (.int .i64 24)], none, 0, 0⟩, ⟨.l 130, .p (.mv), [.t 131], none, 0, 0⟩])
 (.cond (.l 130) (.regD [⟨.t 132, .p (.mv), [.l 2], none, 0, 1⟩, ⟨.t 133, .p (.nilc), [.t 132], none, 0, 1⟩, ⟨.t 134, .p (.fa 5), [.t 133], none, 0, 1⟩, ⟨.t 135, .r (.load false 1), [.t 134], none, 0, 1⟩, ⟨.t 136, .p (.mv), [.l 2], none, 0, 0⟩, ⟨.t 137, .p (.nilc), [.t 136], none, 0, 0⟩, ⟨.t 138, .p (.fa 5), [.t 137], none, 0, 0⟩, ⟨.t 139, .r (.load false 1), [.t 138], none, 0, 0⟩, ⟨.t 140, .call 177, [.t 139], none, 0, 1⟩, ⟨.t 141, .p (.fa 0), [.l 10], none, 1, 1⟩, ⟨.no, .e (.store 1), [.t 141, .t 135], none, 1, 2⟩, ⟨.t 142, .p (.fa 2), [.l 10], none, 2, 2⟩, ⟨.no, .e (.store 1), [.t 142, .t 140], none, 2, 3⟩])
 (.seq (.reg [⟨.t 144, .p (.bin .eql), [.l 69, .c (.int .i64 25)], none, 0, 0⟩, ⟨.l 143, .p (.mv), [.t 144], none, 0, 0⟩])
 (.cond (.l 143) (.reg [⟨.t 145, .p (.fa 0), [.l 10], none, 0, 0⟩, ⟨.no, .e (.store 1), [.t 145, .c (.int .i64 (-1))], none, 0, 0⟩, ⟨.t 146, .p (.fa 2), [.l 10], none, 0, 0⟩, ⟨.no, .e (.store 1), [.t 146, .c .nils], none, 0, 0⟩])
 (.seq (.reg [⟨.t 148, .p (.bin .eql), [.l 69, .c (.int .i64 28)], none, 0, 0⟩, ⟨.l 147, .p (.mv), [.t 148], none, 0, 0⟩])
 (.cond (.l 147) (.regD [⟨.t 149, .p (.mv), [.l 1], none, 0, 0⟩, ⟨.t 150, .p (.nilc), [.t 149], none, 0, 0⟩, ⟨.t 151, .p (.fa 3), [.t 150], none, 0, 0⟩, ⟨.t 152, .r (.load false 1), [.t 151], none, 0, 0⟩, ⟨.t 154, .p (.mv), [.l 2], none, 0, 1⟩, ⟨.t 155, .p (.nilc), [.t 154], none, 0, 1⟩, ⟨.t 156, .p (.fa 4), [.t 155], none, 0, 1⟩, ⟨.t 157, .r (.load false 1), [.t 156], none, 0, 1⟩, ⟨.t 158, .a (.bslice [(.int .i64 0)] 1 1 [(0, 1)]), [.t 157], none, 0, 1⟩, ⟨.t 153, .call 251, [.t 152], none, 0, 1⟩, ⟨.t 159, .e (.append 1 8 none), [.t 153, .t 158], none, 1, 2⟩, ⟨.t 160, .p (.fa 3), [.l 10], none, 2, 2⟩, ⟨.no, .e (.store 1), [.t 160, .t 159], none, 2, 3⟩])
 (.seq (.reg [⟨.t 162, .p (.bin .eql), [.l 69, .c (.int .i64 29)], none, 0, 0⟩, ⟨.l 161, .p (.mv), [.t 162], none, 0, 0⟩])
 (.cond (.l 161) (.regD [⟨.t 163, .p (.mv), [.l 1], none, 0, 0⟩, ⟨.t 164, .p (.nilc), [.t 163], none, 0, 0⟩, ⟨.t 165, .p (.fa 3), [.t 164], none, 0, 0⟩, ⟨.t 166, .r (.load false 1), [.t 165], none, 0, 0⟩, ⟨.t 167, .p (.mv), [.l 1], none, 0, 0⟩, ⟨.t 168, .p (.nilc), [.t 167], none, 0, 0⟩, ⟨.t 169, .p (.fa 3), [.t 168], none, 0, 0⟩, ⟨.t 170, .r (.load false 1), [.t 169], none, 0, 0⟩, ⟨.t 171, .p (.leng .sl), [.t 170], none, 0, 0⟩, ⟨.t 172, .p (.bin .sub), [.t 171, .c (.int .i64 1)], none, 0, 0⟩, ⟨.t 173, .p (.slc (.sl 1) false true false), [.t 166, .t 172], none, 0, 0⟩, ⟨.t 174, .p (.fa 3), [.l 10], none, 0, 0⟩, ⟨.no, .e (.store 1), [.t 174, .t 173], none, 0, 1⟩])
 (.seq (.reg [⟨.t 176, .p (.bin .eql), [.l 69, .c (.int .i64 30)], none, 0, 0⟩, ⟨.l 175, .p (.mv), [.t 176], none, 0, 0⟩])
 (.cond (.l 175) (.reg [⟨.t 177, .p (.fa 4), [.l 10], none, 0, 0⟩, ⟨.no, .e (.store 1), [.t 177, .c (.bool true)], none, 0, 0⟩])
 (.seq (.reg [⟨.t 179, .p (.bin .eql), [.l 69, .c (.int .i64 36)], none, 0, 0⟩, ⟨.l 178, .p (.mv), [.t 179], none, 0, 0⟩])
 (.cond (.l 178) (.reg [⟨.t 180, .p (.mv), [.l 0], none, 0, 0⟩, ⟨.t 181, .p (.nilc), [.t 180], none, 0, 0⟩, ⟨.t 182, .p (.fa 2), [.t 181], none, 0, 0⟩, ⟨.t 183, .r (.load false 1), [.t 182], none, 0, 0⟩, ⟨.t 184, .p (.fa 5), [.l 10], none, 0, 0⟩, ⟨.no, .e (.store 1), [.t 184, .c (.int .i64 1)], none, 0, 0⟩, ⟨.t 185, .p (.fa 6), [.l 10], none, 0, 0⟩, ⟨.no, .e (.store 1), [.t 185, .t 183], none, 0, 0⟩])
 (.seq (.seq (.reg [⟨.t 187, .p (.bin .eql), [.l 69, .c (.int .i64 38)], none, 0, 0⟩, ⟨.l 186, .p (.mv), [.t 187], none, 0, 0⟩])
 (.cond (.l 186) .skip
 (.reg [⟨.t 188, .p (.bin .eql), [.l 69, .c (.int .i64 40)], none, 0, 0⟩, ⟨.l 186, .p (.mv), [.t 188], none, 0, 0⟩])))
 (.cond (.l 186) (.reg [⟨.t 189, .p (.fa 5), [.l 10], none, 0, 0⟩, ⟨.no, .e (.store 1), [.t 189, .c (.int .i64 0)], none, 0, 0⟩, ⟨.t 190, .p (.fa 6), [.l 10], none, 0, 0⟩, ⟨.no, .e (.store 1), [.t 190, .c (.int .i64 0)], none, 0, 0⟩])
 (.seq (.reg [⟨.t 192, .p (.bin .eql), [.l 69, .c (.int .i64 39)], none, 0, 0⟩, ⟨.l 191, .p (.mv), [.t 192], none, 0, 0⟩])
 (.cond (.l 191) (.seq (.reg [⟨.t 193, .p (.mv), [.l 1], none, 0, 0⟩, ⟨.t 194, .p (.nilc), [.t 193], none, 0, 0⟩, ⟨.t 195, .r (.load true 7), [.t 194], none, 0, 0⟩, ⟨.l 12, .a (.alloc [(.int .i64 0), .nils, .nils, .nils, (.bool false), (.int .i64 0), (.int .i64 0)]), [], none, 0, 0⟩, ⟨.no, .e (.store 7), [.l 12, .t 195], none, 0, 0⟩])
 (.seq (.reg [⟨.t 196, .p (.fa 5), [.l 12], none, 0, 0⟩, ⟨.no, .e (.store 1), [.t 196, .c (.int .i64 1)], none, 0, 0⟩])
 (.seq (.reg [⟨.t 197, .p (.mv), [.l 6], none, 0, 0⟩, ⟨.l 6, .p (.mv), [.t 197], none, 0, 0⟩, ⟨.l 7, .p (.mv), [.l 12], none, 0, 0⟩])
 .ret)))
 (.seq (.reg [⟨.t 70, .p (.mv), [.l 6], none, 0, 0⟩, ⟨.t 71, .p (.mv), [.l 7], none, 0, 0⟩, ⟨.l 6, .p (.mv), [.t 70], none, 0, 0⟩, ⟨.l 7, .p (.mv), [.t 71], none, 0, 0⟩])
 .ret)))))))))))))))))))))))))))
 (.seq (.reg [⟨.t 198, .p (.mv), [.l 7], none, 0, 0⟩, ⟨.l 6, .p (.mv), [.l 10], none, 0, 0⟩, ⟨.l 7, .p (.mv), [.t 198], none, 0, 0⟩])
 .ret)))))))),
 [.tmp (.l 6), .tmp (.l 7)]⟩
theorem cf187_ok : compF TP Tryz.f187 = some cf187 := by kernel_rfl
def cf188 : CF := ⟨2, (.seq (.reg [⟨.l 2, .a (.box), [.l 0], none, 0, 0⟩, ⟨.l 4, .p (.mv), [.c .nils], none, 0, 0⟩])
 (.seq (.seq (.reg [⟨.t 7, .p (.mv), [.l 1], none, 0, 0⟩, ⟨.t 8, .p (.bin .lss), [.t 7, .c (.int .i64 0)], none, 0, 0⟩, ⟨.t 9, .p (.mv), [.t 8], none, 0, 0⟩, ⟨.t 10, .p (.mv), [.l 1], (some (.t 9, false)), 0, 0⟩, ⟨.t 11, .r (.load false 1), [.l 2], (some (.t 9, false)), 0, 0⟩, ⟨.t 12, .p (.leng .sl), [.t 11], (some (.t 9, false)), 0, 0⟩, ⟨.t 13, .p (.bin .geq), [.t 10, .t 12], (some (.t 9, false)), 0, 0⟩, ⟨.l 14, .p (.pick), [.t 9, .c (.bool true), .t 13], none, 0, 0⟩])
 (.cond (.l 14) (.seq (.reg [⟨.l 4, .p (.mv), [.c .nils], none, 0, 0⟩])
 .ret)
 .skip))
 (.seq (.reg [⟨.l 5, .a (.alloc [.nils]), [], none, 0, 0⟩])
 (.seq (.seq (.reg [⟨.t 15, .r (.load false 1), [.l 2], none, 0, 0⟩, ⟨.t 16, .p (.mv), [.l 1], none, 0, 0⟩, ⟨.t 17, .p (.ixsl 10), [.t 15, .t 16], none, 0, 0⟩, ⟨.t 18, .p (.mv), [.l 1], none, 0, 0⟩, ⟨.l 19, .call 252, [.t 17, .t 18], none, 0, 0⟩])
 (.block 0 (.rangeF (.l 19) [.l 20] (.reg [⟨.l 6, .p (.mv), [.l 20], none, 0, 0⟩]) (.block 1 (.seq (.reg [⟨.t 21, .p (.mv), [.l 6], none, 0, 0⟩, ⟨.t 22, .p (.bin .geq), [.t 21, .c (.int .i64 0)], none, 0, 0⟩, ⟨.t 23, .p (.mv), [.t 22], none, 0, 0⟩, ⟨.t 24, .p (.mv), [.l 6], (some (.t 23, true)), 0, 0⟩, ⟨.t 25, .r (.load false 1), [.l 2], (some (.t 23, true)), 0, 0⟩, ⟨.t 26, .p (.leng .sl), [.t 25], (some (.t 23, true)), 0, 0⟩, ⟨.t 27, .p (.bin .lss), [.t 24, .t 26], (some (.t 23, true)), 0, 0⟩, ⟨.l 28, .p (.pick), [.t 23, .t 27, .c (.bool false)], none, 0, 0⟩])
 (.cond (.l 28) (.reg [⟨.t 29, .r (.load false 1), [.l 5], none, 0, 0⟩, ⟨.t 30, .p (.mv), [.l 6], none, 0, 0⟩, ⟨.t 31, .a (.bslice [(.int .i64 0)] 1 1 [(0, 1)]), [.t 30], none, 0, 0⟩, ⟨.t 32, .e (.append 1 8 none), [.t 29, .t 31], none, 0, 0⟩, ⟨.no, .e (.store 1), [.l 5, .t 32], none, 0, 0⟩])
 .skip))))))
 (.seq (.reg [⟨.t 33, .r (.load false 1), [.l 5], none, 0, 0⟩, ⟨.t 34, .call 253, [.t 33], none, 0, 0⟩])
 (.seq (.reg [⟨.t 35, .r (.load false 1), [.l 5], none, 0, 0⟩, ⟨.t 36, .call 254, [.t 35], none, 0, 0⟩, ⟨.l 4, .p (.mv), [.t 36], none, 0, 0⟩])
 .ret)))))),
 [.tmp (.l 4)]⟩
theorem cf188_ok : compF TP Tryz.f188 = some cf188 := by kernel_rfl
def cf189 : CF := ⟨2, (.seq (.reg [⟨.l 4, .p (.mv), [.c (.bool false)], none, 0, 0⟩])
 (.seq (.reg [⟨.t 5, .p (.mv), [.l 0], none, 0, 0⟩, ⟨.t 6, .p (.mv), [.l 1], none, 0, 0⟩, ⟨.t 7, .call 255, [.t 5, .t 6], none, 0, 0⟩, ⟨.t 8, .p (.bin .geq), [.t 7, .c (.int .i64 0)], none, 0, 0⟩, ⟨.l 4, .p (.mv), [.t 8], none, 0, 0⟩])
 .ret)),
 [.tmp (.l 4)]⟩
theorem cf189_ok : compF TP Tryz.f189 = some cf189 := by kernel_rfl
def cf192 : CF := ⟨1, (.seq (.reg [⟨.l 2, .p (.mv), [.c (.bool false)], none, 0, 0⟩])
 (.seq (.seq (.reg [⟨.l 3, .p (.mv), [.l 0], none, 0, 0⟩])
 (.block 0 (.seq (.seq (.reg [⟨.t 5, .p (.bin .eql), [.l 3, .c (.int .i64 8)], none, 0, 0⟩, ⟨.l 4, .p (.mv), [.t 5], none, 0, 0⟩])
 (.cond (.l 4) .skip
 (.seq (.reg [⟨.t 6, .p (.bin .eql), [.l 3, .c (.int .i64 39)], none, 0, 0⟩, ⟨.l 4, .p (.mv), [.t 6], none, 0, 0⟩])
 (.cond (.l 4) .skip
 (.seq (.reg [⟨.t 7, .p (.bin .eql), [.l 3, .c (.int .i64 12)], none, 0, 0⟩, ⟨.l 4, .p (.mv), [.t 7], none, 0, 0⟩])
 (.cond (.l 4) .skip
 (.reg [⟨.t 8, .p (.bin .eql), [.l 3, .c (.int .i64 27)], none, 0, 0⟩, ⟨.l 4, .p (.mv), [.t 8], none, 0, 0⟩])))))))
 (.cond (.l 4) (.seq (.reg [⟨.l 2, .p (.mv), [.c (.bool false)], none, 0, 0⟩])
 .ret)
 .skip))))
 (.seq (.reg [⟨.t 9, .p (.mv), [.l 0], none, 0, 0⟩, ⟨.t 10, .call 184, [.t 9], none, 0, 0⟩, ⟨.t 11, .p (.un .not), [.t 10], none, 0, 0⟩, ⟨.l 2, .p (.mv), [.t 11], none, 0, 0⟩])
 .ret))),
 [.tmp (.l 2)]⟩
theorem cf192_ok : compF TP Tryz.f192 = some cf192 := by kernel_rfl
def cf193 : CF := ⟨0, (.seq (.reg [⟨.l 0, .a (.alloc [.nilf, .nilf, .nilf, .nilf, .nilf, .nilf, .nilf, .nilf, .nilf, .nilf, .nilf]), [], none, 0, 0⟩])
 (.seq (.reg [⟨.l 1, .p (.mv), [.c (.func (.func 256) [] [])], none, 0, 0⟩])
 (.seq (.reg [⟨.t 2, .p (.mv), [.l 1], none, 0, 0⟩, ⟨.t 3, .p (.mv), [.l 1], none, 0, 0⟩, ⟨.t 4, .p (.build [.nilf, .nilf, .nilf, .nilf, .nilf, .nilf, .nilf, .nilf, .nilf, .nilf, .nilf] [(0, 1), (1, 1), (2, 1), (3, 1), (6, 1), (4, 1), (5, 1), (7, 1), (8, 1), (9, 1), (10, 1)]), [.c (.func (.func 258) [] []), .c (.func (.func 259) [] []), .c (.func (.func 260) [] []), .t 2, .t 3, .c (.func (.func 261) [] []), .c (.func (.func 262) [] []), .c (.func (.func 263) [] []), .c (.func (.func 264) [] []), .c (.func (.func 265) [] []), .c (.func (.func 266) [] [])], none, 0, 0⟩, ⟨.no, .e (.store 11), [.l 0, .t 4], none, 0, 0⟩])
 .ret))),
 [.cell (.l 0) true 11]⟩
theorem cf193_ok : compF TP Tryz.f193 = some cf193 := by kernel_rfl
def cf194 : CF := ⟨2, (.seq (.reg [⟨.l 2, .a (.box), [.l 0], none, 0, 0⟩, ⟨.l 3, .a (.box), [.l 1], none, 0, 0⟩, ⟨.l 4, .p (.mv), [.c (.bool false)], none, 0, 0⟩])
 (.seq (.seq (.reg [⟨.t 7, .p (.fa 0), [.l 3], none, 0, 0⟩, ⟨.t 8, .r (.load false 1), [.t 7], none, 0, 0⟩, ⟨.t 9, .p (.bin .lss), [.t 8, .c (.int .i64 0)], none, 0, 0⟩, ⟨.t 10, .p (.mv), [.t 9], none, 0, 0⟩, ⟨.t 11, .p (.fa 0), [.l 3], (some (.t 10, false)), 0, 0⟩, ⟨.t 12, .r (.load false 1), [.t 11], (some (.t 10, false)), 0, 0⟩, ⟨.t 13, .p (.bin .geq), [.t 12, .c (.int .i64 11)], (some (.t 10, false)), 0, 0⟩, ⟨.l 14, .p (.pick), [.t 10, .c (.bool true), .t 13], none, 0, 0⟩])
 (.cond (.l 14) (.seq (.reg [⟨.l 4, .p (.mv), [.c (.bool false)], none, 0, 0⟩])
 .ret)
 .skip))
 (.seq (.regD [⟨.t 16, .r (.load false 1), [.l 2], none, 0, 0⟩, ⟨.t 17, .p (.fa 0), [.l 3], none, 0, 0⟩, ⟨.t 18, .r (.load false 1), [.t 17], none, 0, 0⟩, ⟨.t 19, .p (.nilc), [.t 16], none, 0, 0⟩, ⟨.t 20, .p (.fa 0), [.t 19], none, 0, 0⟩, ⟨.t 21, .p (.ixarrp 11 1), [.t 20, .t 18], none, 0, 0⟩, ⟨.t 22, .r (.load false 1), [.t 21], none, 0, 0⟩, ⟨.t 23, .r (.load true 9), [.l 3], none, 0, 0⟩, ⟨.l 5, .a (.alloc [(.int .i64 0), (.int .i64 0), (.int .i64 0), (.str 0 0), (.str 0 0), (.int .i64 0), .nils, (.str 0 0), (.int .i64 0)]), [], none, 0, 1⟩, ⟨.t 24, .callv, [.t 22, .t 23], none, 0, 1⟩, ⟨.t 15, .p (.mv), [.t 24], none, 1, 1⟩, ⟨.t 25, .p (.ext 0), [.t 15], none, 1, 1⟩, ⟨.t 26, .p (.ext 1), [.t 15], none, 1, 2⟩, ⟨.no, .e (.store 9), [.l 5, .t 25], none, 1, 2⟩, ⟨.l 6, .p (.mv), [.t 26], none, 2, 2⟩])
 (.seq (.reg [⟨.t 27, .p (.fa 0), [.l 5], none, 0, 0⟩, ⟨.no, .e (.store 1), [.t 27, .c (.int .i64 0)], none, 0, 0⟩])
 (.seq (.seq (.reg [⟨.t 28, .p (.mv), [.l 6], none, 0, 0⟩, ⟨.t 29, .p (.un .not), [.t 28], none, 0, 0⟩, ⟨.t 30, .p (.mv), [.t 29], none, 0, 0⟩, ⟨.t 31, .r (.load true 9), [.l 5], (some (.t 30, false)), 0, 0⟩, ⟨.t 32, .p (.build [(.int .i64 0), (.int .i64 0), (.int .i64 0), (.str 0 0), (.str 0 0), (.int .i64 0), .nils, (.str 0 0), (.int .i64 0)] []), [], (some (.t 30, false)), 0, 0⟩, ⟨.t 33, .call 267, [.t 31, .t 32], (some (.t 30, false)), 0, 0⟩, ⟨.t 34, .p (.un .not), [.t 33], (some (.t 30, false)), 0, 0⟩, ⟨.l 35, .p (.pick), [.t 30, .c (.bool true), .t 34], none, 0, 0⟩])
 (.cond (.l 35) (.seq (.reg [⟨.l 4, .p (.mv), [.c (.bool false)], none, 0, 0⟩])
 .ret)
 .skip))
 (.seq (.seq (.reg [⟨.t 36, .p (.fa 0), [.l 3], none, 0, 0⟩, ⟨.l 37, .r (.load false 1), [.t 36], none, 0, 0⟩])
 (.block 0 (.seq (.reg [⟨.t 46, .p (.bin .eql), [.l 37, .c (.int .i64 9)], none, 0, 0⟩, ⟨.l 45, .p (.mv), [.t 46], none, 0, 0⟩])
 (.cond (.l 45) (.regD [⟨.t 47, .r (.load false 1), [.l 2], none, 0, 0⟩, ⟨.t 48, .p (.nilc), [.t 47], none, 0, 0⟩, ⟨.t 49, .p (.fa 11), [.t 48], none, 0, 0⟩, ⟨.t 50, .r (.load false 1), [.t 49], none, 0, 0⟩, ⟨.t 51, .p (.fa 6), [.l 3], none, 0, 0⟩, ⟨.t 52, .r (.load false 1), [.t 51], none, 0, 0⟩, ⟨.t 53, .p (.leng .sl), [.t 52], none, 0, 0⟩, ⟨.t 54, .p (.bin .sub), [.t 53, .c (.int .i64 1)], none, 0, 0⟩, ⟨.t 55, .p (.bin .add), [.t 50, .t 54], none, 0, 0⟩, ⟨.t 56, .p (.nilc), [.t 47], none, 0, 0⟩, ⟨.t 57, .p (.fa 11), [.t 56], none, 0, 0⟩, ⟨.no, .e (.store 1), [.t 57, .t 55], none, 0, 1⟩])
 (.seq (.reg [⟨.t 59, .p (.bin .eql), [.l 37, .c (.int .i64 10)], none, 0, 0⟩, ⟨.l 58, .p (.mv), [.t 59], none, 0, 0⟩])
 (.cond (.l 58) (.regD [⟨.t 60, .r (.load false 1), [.l 2], none, 0, 0⟩, ⟨.t 61, .p (.nilc), [.t 60], none, 0, 0⟩, ⟨.t 62, .p (.fa 11), [.t 61], none, 0, 0⟩, ⟨.t 63, .r (.load false 1), [.t 62], none, 0, 0⟩, ⟨.t 64, .p (.fa 8), [.l 3], none, 0, 0⟩, ⟨.t 65, .r (.load false 1), [.t 64], none, 0, 0⟩, ⟨.t 66, .p (.bin .add), [.t 65, .c (.int .i64 63)], none, 0, 0⟩, ⟨.t 67, .p (.bin .quo), [.t 66, .c (.int .i64 64)], none, 0, 0⟩, ⟨.t 68, .p (.bin .add), [.c (.int .i64 1), .t 67], none, 0, 0⟩, ⟨.t 69, .p (.bin .add), [.t 63, .t 68], none, 0, 0⟩, ⟨.t 70, .p (.nilc), [.t 60], none, 0, 0⟩, ⟨.t 71, .p (.fa 11), [.t 70], none, 0, 0⟩, ⟨.no, .e (.store 1), [.t 71, .t 69], none, 0, 1⟩])
 (.reg [⟨.t 38, .r (.load false 1), [.l 2], none, 0, 0⟩, ⟨.t 39, .p (.nilc), [.t 38], none, 0, 0⟩, ⟨.t 40, .p (.fa 11), [.t 39], none, 0, 0⟩, ⟨.t 41, .r (.load false 1), [.t 40], none, 0, 0⟩, ⟨.t 42, .p (.bin .add), [.t 41, .c (.int .i64 1)], none, 0, 0⟩, ⟨.t 43, .p (.nilc), [.t 38], none, 0, 0⟩, ⟨.t 44, .p (.fa 11), [.t 43], none, 0, 0⟩, ⟨.no, .e (.store 1), [.t 44, .t 42], none, 0, 0⟩])))))))
 (.seq (.reg [⟨.t 72, .p (.fa 6), [.l 3], none, 0, 0⟩, ⟨.t 73, .r (.load false 1), [.t 72], none, 0, 0⟩, ⟨.t 74, .p (.mkf (.func 269) 0), [.l 2], none, 0, 0⟩, ⟨.t 75, .call 268, [.t 73, .t 74], none, 0, 0⟩, ⟨.t 76, .p (.un .not), [.t 75], none, 0, 0⟩, ⟨.l 4, .p (.mv), [.t 76], none, 0, 0⟩])
 .ret))))))),
 [.tmp (.l 4)]⟩
theorem cf194_ok : compF TP Tryz.f194 = some cf194 := by kernel_rfl
def cf196 : CF := ⟨2, (.seq (.reg [⟨.l 3, .a (.box), [.l 1], none, 0, 0⟩, ⟨.l 4, .a (.alloc [(.int .i64 0), (.int .i64 0), (.int .i64 0), (.str 0 0), (.str 0 0), (.int .i64 0), .nils, (.str 0 0), (.int .i64 0)]), [], none, 0, 0⟩, ⟨.l 5, .p (.mv), [.c (.bool false)], none, 0, 0⟩])
 (.seq (.seq (.reg [⟨.t 6, .p (.fa 0), [.l 3], none, 0, 0⟩, ⟨.t 7, .r (.load false 1), [.t 6], none, 0, 0⟩, ⟨.l 8, .p (.bin .neq), [.t 7, .c (.int .i64 3)], none, 0, 0⟩])
 (.cond (.l 8) (.seq (.reg [⟨.t 9, .p (.build [(.int .i64 0), (.int .i64 0), (.int .i64 0), (.str 0 0), (.str 0 0), (.int .i64 0), .nils, (.str 0 0), (.int .i64 0)] []), [], none, 0, 0⟩, ⟨.no, .e (.store 9), [.l 4, .t 9], none, 0, 0⟩, ⟨.l 5, .p (.mv), [.c (.bool false)], none, 0, 0⟩])
 .ret)
 .skip))
 (.seq (.regD [⟨.t 10, .p (.mv), [.l 0], none, 0, 0⟩, ⟨.t 11, .p (.nilc), [.t 10], none, 0, 0⟩, ⟨.t 12, .p (.fa 311), [.t 11], none, 0, 0⟩, ⟨.t 13, .p (.fa 0), [.t 12], none, 0, 0⟩, ⟨.t 14, .r (.load false 1), [.t 13], none, 0, 0⟩, ⟨.t 15, .p (.nilc), [.t 14], none, 0, 0⟩, ⟨.t 16, .p (.fa 1), [.t 15], none, 0, 0⟩, ⟨.t 17, .p (.fa 2), [.t 16], none, 0, 0⟩, ⟨.t 18, .r (.load false 1), [.t 17], none, 0, 0⟩, ⟨.t 19, .p (.fa 1), [.l 3], none, 0, 0⟩, ⟨.t 20, .r (.load false 1), [.t 19], none, 0, 0⟩, ⟨.t 21, .p (.ixsl 9), [.t 18, .t 20], none, 0, 0⟩, ⟨.t 22, .r (.load true 9), [.t 21], none, 0, 0⟩, ⟨.no, .e (.store 9), [.l 4, .t 22], none, 0, 1⟩, ⟨.l 5, .p (.mv), [.c (.bool true)], none, 1, 1⟩])
 .ret))),
 [.cell (.l 4) true 9, .tmp (.l 5)]⟩
theorem cf196_ok : compF TP Tryz.f196 = some cf196 := by kernel_rfl
def cf197 : CF := ⟨2, (.seq (.reg [⟨.l 3, .a (.box), [.l 1], none, 0, 0⟩, ⟨.l 4, .p (.mv), [.c (.int .u64 0)], none, 0, 0⟩])
 (.seq (.seq (.reg [⟨.t 7, .p (.fa 0), [.l 3], none, 0, 0⟩, ⟨.l 8, .r (.load false 1), [.t 7], none, 0, 0⟩])
 (.block 0 (.seq (.reg [⟨.t 10, .p (.bin .eql), [.l 8, .c (.int .i64 1)], none, 0, 0⟩, ⟨.l 9, .p (.mv), [.t 10], none, 0, 0⟩])
 (.cond (.l 9) (.seq (.regD [⟨.t 11, .p (.mv), [.l 0], none, 0, 0⟩, ⟨.t 12, .p (.fa 1), [.l 3], none, 0, 0⟩, ⟨.t 13, .r (.load false 1), [.t 12], none, 0, 0⟩, ⟨.t 14, .p (.nilc), [.t 11], none, 0, 0⟩, ⟨.t 15, .p (.fa 54), [.t 14], none, 0, 0⟩, ⟨.t 16, .p (.ixarrp 256 1), [.t 15, .t 13], none, 0, 0⟩, ⟨.t 17, .r (.load false 1), [.t 16], none, 0, 0⟩, ⟨.l 4, .p (.mv), [.t 17], none, 0, 0⟩])
 .ret)
 (.seq (.reg [⟨.t 19, .p (.bin .eql), [.l 8, .c (.int .i64 2)], none, 0, 0⟩, ⟨.l 18, .p (.mv), [.t 19], none, 0, 0⟩])
 (.cond (.l 18) (.seq (.regD [⟨.t 20, .p (.mv), [.l 0], none, 0, 0⟩, ⟨.t 22, .p (.fa 1), [.l 3], none, 0, 1⟩, ⟨.t 23, .r (.load false 1), [.t 22], none, 0, 1⟩, ⟨.t 21, .call 195, [.t 20], none, 0, 1⟩, ⟨.t 24, .p (.ixsl 1), [.t 21, .t 23], none, 1, 1⟩, ⟨.t 25, .r (.load false 1), [.t 24], none, 1, 1⟩, ⟨.l 4, .p (.mv), [.t 25], none, 1, 1⟩])
 .ret)
 .skip))))))
 (.seq (.regD [⟨.t 27, .p (.mv), [.l 0], none, 0, 0⟩, ⟨.t 28, .p (.nilc), [.t 27], none, 0, 0⟩, ⟨.t 29, .p (.fa 10), [.t 28], none, 0, 0⟩, ⟨.t 30, .r (.load false 1), [.t 29], none, 0, 0⟩, ⟨.t 31, .p (.mv), [.l 0], none, 0, 0⟩, ⟨.t 32, .p (.nilc), [.t 31], none, 0, 0⟩, ⟨.t 33, .p (.fa 311), [.t 32], none, 0, 0⟩, ⟨.t 34, .p (.fa 0), [.t 33], none, 0, 0⟩, ⟨.t 35, .r (.load false 1), [.t 34], none, 0, 0⟩, ⟨.t 36, .p (.nilc), [.t 35], none, 0, 0⟩, ⟨.t 37, .p (.fa 1), [.t 36], none, 0, 0⟩, ⟨.t 38, .p (.fa 2), [.t 37], none, 0, 0⟩, ⟨.t 39, .r (.load false 1), [.t 38], none, 0, 0⟩, ⟨.t 40, .p (.fa 1), [.l 3], none, 0, 0⟩, ⟨.t 41, .r (.load false 1), [.t 40], none, 0, 0⟩, ⟨.t 42, .p (.ixsl 9), [.t 39, .t 41], none, 0, 0⟩, ⟨.t 43, .r (.load true 9), [.t 42], none, 0, 0⟩, ⟨.t 44, .call 109, [.t 30, .t 43], none, 0, 1⟩, ⟨.t 26, .p (.mv), [.t 44], none, 1, 1⟩, ⟨.t 45, .p (.ext 0), [.t 26], none, 1, 1⟩, ⟨.t 46, .p (.ext 1), [.t 26], none, 1, 1⟩, ⟨.l 5, .p (.mv), [.t 45], none, 1, 1⟩, ⟨.t 6, .p (.mv), [.t 46], none, 1, 1⟩])
 (.seq (.reg [⟨.t 47, .p (.mv), [.l 5], none, 0, 0⟩, ⟨.l 4, .p (.mv), [.t 47], none, 0, 0⟩])
 .ret)))),
 [.tmp (.l 4)]⟩
theorem cf197_ok : compF TP Tryz.f197 = some cf197 := by kernel_rfl
def cf202 : CF := ⟨2, (.seq (.reg [⟨.l 4, .p (.mv), [.c (.int .u64 0)], none, 0, 0⟩])
 (.seq (.reg [⟨.t 10, .p (.mv), [.l 0], none, 0, 0⟩, ⟨.t 11, .p (.nilc), [.t 10], none, 0, 0⟩, ⟨.t 12, .p (.fa 6), [.t 11], none, 0, 0⟩, ⟨.t 13, .r (.load false 1), [.t 12], none, 0, 0⟩, ⟨.t 14, .p (.mv), [.l 1], none, 0, 0⟩, ⟨.t 15, .call 28, [.t 13, .t 14], none, 0, 0⟩, ⟨.t 9, .p (.mv), [.t 15], none, 0, 0⟩, ⟨.t 16, .p (.ext 0), [.t 9], none, 0, 0⟩, ⟨.t 17, .p (.ext 1), [.t 9], none, 0, 0⟩, ⟨.l 5, .p (.mv), [.t 16], none, 0, 0⟩, ⟨.t 6, .p (.mv), [.t 17], none, 0, 0⟩])
 (.seq (.reg [⟨.t 19, .p (.mv), [.l 5], none, 0, 0⟩, ⟨.t 20, .call 277, [.t 19], none, 0, 0⟩, ⟨.t 18, .p (.mv), [.t 20], none, 0, 0⟩, ⟨.t 21, .p (.ext 0), [.t 18], none, 0, 0⟩, ⟨.t 22, .p (.ext 1), [.t 18], none, 0, 0⟩, ⟨.l 7, .p (.mv), [.t 21], none, 0, 0⟩, ⟨.t 8, .p (.mv), [.t 22], none, 0, 0⟩])
 (.seq (.reg [⟨.t 23, .p (.mv), [.l 7], none, 0, 0⟩, ⟨.l 4, .p (.mv), [.t 23], none, 0, 0⟩])
 .ret)))),
 [.tmp (.l 4)]⟩
theorem cf202_ok : compF TP Tryz.f202 = some cf202 := by kernel_rfl
def cf206 : CF := ⟨2, (.seq (.reg [⟨.l 4, .a (.alloc [(.int .i64 0), (.int .i64 0), (.int .i64 0), (.str 0 0), (.str 0 0), (.int .i64 0), .nils, (.str 0 0), (.int .i64 0)]), [], none, 0, 0⟩])
 (.seq (.seq (.reg [⟨.t 16, .p (.mv), [.l 1], none, 0, 0⟩, ⟨.t 17, .call 156, [.t 16], none, 0, 0⟩, ⟨.t 15, .p (.mv), [.t 17], none, 0, 0⟩, ⟨.t 18, .p (.ext 0), [.t 15], none, 0, 0⟩, ⟨.t 19, .p (.ext 1), [.t 15], none, 0, 0⟩, ⟨.l 5, .p (.mv), [.t 18], none, 0, 0⟩, ⟨.l 6, .p (.mv), [.t 19], none, 0, 0⟩])
 (.seq (.reg [⟨.l 20, .p (.mv), [.l 6], none, 0, 0⟩])
 (.cond (.l 20) (.seq (.reg [⟨.t 21, .p (.mv), [.l 5], none, 0, 0⟩, ⟨.t 22, .call 147, [.t 21], none, 0, 0⟩, ⟨.no, .e (.store 9), [.l 4, .t 22], none, 0, 0⟩])
 .ret)
 .skip)))
 (.seq (.seq (.reg [⟨.t 24, .p (.mv), [.l 1], none, 0, 0⟩, ⟨.t 25, .call 157, [.t 24], none, 0, 0⟩, ⟨.t 23, .p (.mv), [.t 25], none, 0, 0⟩, ⟨.t 26, .p (.ext 0), [.t 23], none, 0, 0⟩, ⟨.t 27, .p (.ext 1), [.t 23], none, 0, 0⟩, ⟨.t 7, .p (.mv), [.t 26], none, 0, 0⟩, ⟨.l 8, .p (.mv), [.t 27], none, 0, 0⟩])
 (.seq (.reg [⟨.l 28, .p (.mv), [.l 8], none, 0, 0⟩])
 (.cond (.l 28) (.seq (.reg [⟨.t 29, .p (.mv), [.l 0], none, 0, 0⟩, ⟨.t 30, .p (.mv), [.l 1], none, 0, 0⟩, ⟨.t 31, .call 278, [.t 29, .t 30], none, 0, 0⟩, ⟨.t 32, .p (.build [(.int .i64 0), (.int .i64 0), (.int .i64 0), (.str 0 0), (.str 0 0), (.int .i64 0), .nils, (.str 0 0), (.int .i64 0)] [(0, 1), (3, 1)]), [.c (.int .i64 2), .t 31], none, 0, 0⟩, ⟨.no, .e (.store 9), [.l 4, .t 32], none, 0, 0⟩])
 .ret)
 .skip)))
 (.seq (.reg [⟨.t 34, .p (.mv), [.l 0], none, 0, 0⟩, ⟨.t 35, .p (.nilc), [.t 34], none, 0, 0⟩, ⟨.t 36, .p (.fa 0), [.t 35], none, 0, 0⟩, ⟨.t 37, .p (.mv), [.l 1], none, 0, 0⟩, ⟨.t 38, .call 105, [.t 36, .t 37], none, 0, 0⟩, ⟨.t 33, .p (.mv), [.t 38], none, 0, 0⟩, ⟨.t 39, .p (.ext 0), [.t 33], none, 0, 0⟩, ⟨.t 40, .p (.ext 1), [.t 33], none, 0, 0⟩, ⟨.t 41, .p (.ext 2), [.t 33], none, 0, 0⟩, ⟨.l 9, .p (.mv), [.t 39], none, 0, 0⟩, ⟨.l 10, .p (.mv), [.t 40], none, 0, 0⟩, ⟨.l 11, .p (.mv), [.t 41], none, 0, 0⟩])
 (.seq (.seq (.reg [⟨.t 42, .p (.mv), [.l 11], none, 0, 0⟩, ⟨.l 43, .p (.un .not), [.t 42], none, 0, 0⟩])
 (.cond (.l 43) (.seq (.reg [⟨.t 44, .call 279, [], none, 0, 0⟩, ⟨.no, .e (.store 9), [.l 4, .t 44], none, 0, 0⟩])
 .ret)
 .skip))
 (.seq (.reg [⟨.l 12, .p (.mv), [.c .nils], none, 0, 0⟩])
 (.seq (.seq (.reg [⟨.t 45, .p (.mv), [.l 9], none, 0, 0⟩, ⟨.l 46, .p (.bin .neq), [.t 45, .c (.int .i64 0)], none, 0, 0⟩])
 (.cond (.l 46) (.seq (.reg [⟨.t 47, .p (.mv), [.l 10], none, 0, 0⟩, ⟨.t 48, .p (.mv), [.l 9], none, 0, 0⟩, ⟨.t 49, .p (.mv), [.l 10], none, 0, 0⟩, ⟨.t 50, .call 106, [.t 48, .t 49], none, 0, 0⟩, ⟨.l 51, .p (.slc (.sl 1) true false false), [.t 47, .t 50], none, 0, 0⟩, ⟨.l 52, .p (.leng .sl), [.l 51], none, 0, 0⟩, ⟨.l 53, .p (.mv), [.c (.int .i64 0)], none, 0, 0⟩])
 (.block 0 (.loop (.seq (.reg [⟨.l 54, .p (.bin .lss), [.l 53, .l 52], none, 0, 0⟩])
 (.seq (.cond (.l 54) .skip
 (.exit 0))
 (.seq (.block 1 (.seq (.reg [⟨.t 55, .p (.ixsl 1), [.l 51, .l 53], none, 0, 0⟩, ⟨.t 56, .r (.load false 1), [.t 55], none, 0, 0⟩, ⟨.l 14, .p (.mv), [.t 56], none, 0, 0⟩])
 (.reg [⟨.t 57, .p (.mv), [.l 12], none, 0, 0⟩, ⟨.t 58, .p (.mv), [.l 0], none, 0, 0⟩, ⟨.t 59, .p (.mv), [.l 14], none, 0, 0⟩, ⟨.t 60, .call 206, [.t 58, .t 59], none, 0, 0⟩, ⟨.t 61, .a (.bslice [(.int .i64 0), (.int .i64 0), (.int .i64 0), (.str 0 0), (.str 0 0), (.int .i64 0), .nils, (.str 0 0), (.int .i64 0)] 1 9 [(0, 9)]), [.t 60], none, 0, 0⟩, ⟨.t 62, .e (.append 9 112 none), [.t 57, .t 61], none, 0, 0⟩, ⟨.l 12, .p (.mv), [.t 62], none, 0, 0⟩])))
 (.reg [⟨.t 63, .p (.bin .add), [.l 53, .c (.int .i64 1)], none, 0, 0⟩, ⟨.l 53, .p (.mv), [.t 63], none, 0, 0⟩])))))))
 .skip))
 (.seq (.seq (.reg [⟨.l 64, .p (.mv), [.l 9], none, 0, 0⟩])
 (.block 2 (.seq (.reg [⟨.t 66, .p (.bin .eql), [.l 64, .c (.int .i64 0)], none, 0, 0⟩, ⟨.l 65, .p (.mv), [.t 66], none, 0, 0⟩])
 (.cond (.l 65) (.seq (.block 3 (.loop (.seq (.seq (.reg [⟨.t 67, .p (.mv), [.l 11], none, 0, 0⟩, ⟨.t 68, .p (.mv), [.t 67], none, 0, 0⟩, ⟨.t 69, .p (.mv), [.l 9], (some (.t 68, true)), 0, 0⟩, ⟨.t 70, .p (.bin .eql), [.t 69, .c (.int .i64 0)], (some (.t 68, true)), 0, 0⟩, ⟨.l 71, .p (.pick), [.t 68, .t 70, .c (.bool false)], none, 0, 0⟩])
 (.cond (.l 71) .skip
 (.exit 3)))
 (.seq (.block 4 (.seq (.reg [⟨.t 81, .p (.mv), [.l 12], none, 0, 0⟩, ⟨.t 82, .p (.mv), [.l 0], none, 0, 0⟩, ⟨.t 83, .p (.mv), [.l 10], none, 0, 0⟩, ⟨.t 84, .p (.ixsl 1), [.t 83, .c (.int .i64 0)], none, 0, 0⟩, ⟨.t 85, .r (.load false 1), [.t 84], none, 0, 0⟩, ⟨.t 86, .call 206, [.t 82, .t 85], none, 0, 0⟩, ⟨.t 87, .a (.bslice [(.int .i64 0), (.int .i64 0), (.int .i64 0), (.str 0 0), (.str 0 0), (.int .i64 0), .nils, (.str 0 0), (.int .i64 0)] 1 9 [(0, 9)]), [.t 86], none, 0, 0⟩, ⟨.t 88, .e (.append 9 112 none), [.t 81, .t 87], none, 0, 0⟩, ⟨.l 12, .p (.mv), [.t 88], none, 0, 0⟩])
 (.reg [⟨.t 89, .p (.mv), [.l 10], none, 0, 0⟩, ⟨.t 90, .p (.ixsl 1), [.t 89, .c (.int .i64 1)], none, 0, 0⟩, ⟨.t 91, .r (.load false 1), [.t 90], none, 0, 0⟩, ⟨.l 1, .p (.mv), [.t 91], none, 0, 0⟩])))
 (.reg [⟨.t 73, .p (.mv), [.l 0], none, 0, 0⟩, ⟨.t 74, .p (.nilc), [.t 73], none, 0, 0⟩, ⟨.t 75, .p (.fa 0), [.t 74], none, 0, 0⟩, ⟨.t 76, .p (.mv), [.l 1], none, 0, 0⟩, ⟨.t 77, .call 105, [.t 75, .t 76], none, 0, 0⟩, ⟨.t 72, .p (.mv), [.t 77], none, 0, 0⟩, ⟨.t 78, .p (.ext 0), [.t 72], none, 0, 0⟩, ⟨.t 79, .p (.ext 1), [.t 72], none, 0, 0⟩, ⟨.t 80, .p (.ext 2), [.t 72], none, 0, 0⟩, ⟨.l 9, .p (.mv), [.t 78], none, 0, 0⟩, ⟨.l 10, .p (.mv), [.t 79], none, 0, 0⟩, ⟨.l 11, .p (.mv), [.t 80], none, 0, 0⟩])))))
 (.seq (.reg [⟨.t 92, .p (.mv), [.l 12], none, 0, 0⟩, ⟨.t 93, .p (.mv), [.l 0], none, 0, 0⟩, ⟨.t 94, .p (.mv), [.l 1], none, 0, 0⟩, ⟨.t 95, .call 206, [.t 93, .t 94], none, 0, 0⟩, ⟨.t 96, .a (.bslice [(.int .i64 0), (.int .i64 0), (.int .i64 0), (.str 0 0), (.str 0 0), (.int .i64 0), .nils, (.str 0 0), (.int .i64 0)] 1 9 [(0, 9)]), [.t 95], none, 0, 0⟩, ⟨.t 97, .e (.append 9 112 none), [.t 92, .t 96], none, 0, 0⟩, ⟨.t 98, .p (.build [(.int .i64 0), (.int .i64 0), (.int .i64 0), (.str 0 0), (.str 0 0), (.int .i64 0), .nils, (.str 0 0), (.int .i64 0)] [(0, 1), (6, 1)]), [.c (.int .i64 9), .t 97], none, 0, 0⟩, ⟨.no, .e (.store 9), [.l 4, .t 98], none, 0, 0⟩])
 .ret))
 (.seq (.reg [⟨.t 100, .p (.bin .eql), [.l 64, .c (.int .i64 1)], none, 0, 0⟩, ⟨.l 99, .p (.mv), [.t 100], none, 0, 0⟩])
 (.cond (.l 99) (.seq (.reg [⟨.t 101, .p (.mv), [.l 12], none, 0, 0⟩, ⟨.t 102, .p (.build [(.int .i64 0), (.int .i64 0), (.int .i64 0), (.str 0 0), (.str 0 0), (.int .i64 0), .nils, (.str 0 0), (.int .i64 0)] [(0, 1), (6, 1)]), [.c (.int .i64 7), .t 101], none, 0, 0⟩, ⟨.no, .e (.store 9), [.l 4, .t 102], none, 0, 0⟩])
 .ret)
 (.seq (.reg [⟨.t 104, .p (.bin .eql), [.l 64, .c (.int .i64 2)], none, 0, 0⟩, ⟨.l 103, .p (.mv), [.t 104], none, 0, 0⟩])
 (.cond (.l 103) (.seq (.regD [⟨.t 105, .p (.mv), [.l 0], none, 0, 0⟩, ⟨.t 106, .p (.mv), [.l 10], none, 0, 0⟩, ⟨.t 107, .p (.ixsl 1), [.t 106, .c (.int .i64 0)], none, 0, 0⟩, ⟨.t 108, .r (.load false 1), [.t 107], none, 0, 0⟩, ⟨.t 110, .p (.mv), [.l 10], none, 0, 1⟩, ⟨.t 111, .p (.ixsl 1), [.t 110, .c (.int .i64 1)], none, 0, 1⟩, ⟨.t 112, .r (.load false 1), [.t 111], none, 0, 1⟩, ⟨.t 114, .p (.mv), [.l 10], none, 0, 2⟩, ⟨.t 115, .p (.ixsl 1), [.t 114, .c (.int .i64 2)], none, 0, 2⟩, ⟨.t 116, .r (.load false 1), [.t 115], none, 0, 2⟩, ⟨.t 118, .p (.mv), [.l 10], none, 0, 3⟩, ⟨.t 119, .p (.ixsl 1), [.t 118, .c (.int .i64 3)], none, 0, 3⟩, ⟨.t 120, .r (.load false 1), [.t 119], none, 0, 3⟩, ⟨.t 122, .p (.mv), [.l 12], none, 0, 4⟩, ⟨.t 109, .call 278, [.t 105, .t 108], none, 0, 1⟩, ⟨.t 113, .call 205, [.t 112], none, 1, 2⟩, ⟨.t 117, .call 205, [.t 116], none, 2, 3⟩, ⟨.t 121, .call 205, [.t 120], none, 3, 4⟩, ⟨.t 123, .p (.build [(.int .i64 0), (.int .i64 0), (.int .i64 0), (.str 0 0), (.str 0 0), (.int .i64 0), .nils, (.str 0 0), (.int .i64 0)] [(0, 1), (3, 1), (2, 1), (1, 1), (5, 1), (6, 1)]), [.c (.int .i64 4), .t 109, .t 113, .t 117, .t 121, .t 122], none, 4, 4⟩, ⟨.no, .e (.store 9), [.l 4, .t 123], none, 4, 5⟩])
 .ret)
 (.seq (.reg [⟨.t 125, .p (.bin .eql), [.l 64, .c (.int .i64 3)], none, 0, 0⟩, ⟨.l 124, .p (.mv), [.t 125], none, 0, 0⟩])
 (.cond (.l 124) (.seq (.regD [⟨.t 126, .p (.mv), [.l 0], none, 0, 0⟩, ⟨.t 127, .p (.mv), [.l 10], none, 0, 0⟩, ⟨.t 128, .p (.ixsl 1), [.t 127, .c (.int .i64 0)], none, 0, 0⟩, ⟨.t 129, .r (.load false 1), [.t 128], none, 0, 0⟩, ⟨.t 131, .p (.mv), [.l 0], none, 0, 1⟩, ⟨.t 132, .p (.mv), [.l 10], none, 0, 1⟩, ⟨.t 133, .p (.ixsl 1), [.t 132, .c (.int .i64 1)], none, 0, 1⟩, ⟨.t 134, .r (.load false 1), [.t 133], none, 0, 1⟩, ⟨.t 136, .p (.mv), [.l 10], none, 0, 2⟩, ⟨.t 137, .p (.ixsl 1), [.t 136, .c (.int .i64 2)], none, 0, 2⟩, ⟨.t 138, .r (.load false 1), [.t 137], none, 0, 2⟩, ⟨.t 130, .call 278, [.t 126, .t 129], none, 0, 1⟩, ⟨.t 135, .call 278, [.t 131, .t 134], none, 1, 2⟩, ⟨.t 139, .call 205, [.t 138], none, 2, 3⟩, ⟨.t 140, .p (.build [(.int .i64 0), (.int .i64 0), (.int .i64 0), (.str 0 0), (.str 0 0), (.int .i64 0), .nils, (.str 0 0), (.int .i64 0)] [(0, 1), (3, 1), (4, 1), (5, 1)]), [.c (.int .i64 5), .t 130, .t 135, .t 139], none, 3, 3⟩, ⟨.no, .e (.store 9), [.l 4, .t 140], none, 3, 4⟩])
 .ret)
 (.seq (.reg [⟨.t 142, .p (.bin .eql), [.l 64, .c (.int .i64 4)], none, 0, 0⟩, ⟨.l 141, .p (.mv), [.t 142], none, 0, 0⟩])
 (.cond (.l 141) (.seq (.regD [⟨.t 143, .p (.mv), [.l 0], none, 0, 0⟩, ⟨.t 144, .p (.mv), [.l 10], none, 0, 0⟩, ⟨.t 145, .p (.ixsl 1), [.t 144, .c (.int .i64 0)], none, 0, 0⟩, ⟨.t 146, .r (.load false 1), [.t 145], none, 0, 0⟩, ⟨.t 148, .p (.mv), [.l 10], none, 0, 1⟩, ⟨.t 149, .p (.ixsl 1), [.t 148, .c (.int .i64 1)], none, 0, 1⟩, ⟨.t 150, .r (.load false 1), [.t 149], none, 0, 1⟩, ⟨.t 152, .p (.mv), [.l 10], none, 0, 2⟩, ⟨.t 153, .p (.ixsl 1), [.t 152, .c (.int .i64 2)], none, 0, 2⟩, ⟨.t 154, .r (.load false 1), [.t 153], none, 0, 2⟩, ⟨.t 147, .call 278, [.t 143, .t 146], none, 0, 1⟩, ⟨.t 151, .call 205, [.t 150], none, 1, 2⟩, ⟨.t 155, .call 205, [.t 154], none, 2, 3⟩, ⟨.t 156, .p (.build [(.int .i64 0), (.int .i64 0), (.int .i64 0), (.str 0 0), (.str 0 0), (.int .i64 0), .nils, (.str 0 0), (.int .i64 0)] [(0, 1), (3, 1), (2, 1), (1, 1)]), [.c (.int .i64 6), .t 147, .t 151, .t 155], none, 3, 3⟩, ⟨.no, .e (.store 9), [.l 4, .t 156], none, 3, 4⟩])
 .ret)
 (.seq (.reg [⟨.t 158, .p (.bin .eql), [.l 64, .c (.int .i64 5)], none, 0, 0⟩, ⟨.l 157, .p (.mv), [.t 158], none, 0, 0⟩])
 (.cond (.l 157) (.seq (.regD [⟨.t 159, .p (.mv), [.l 0], none, 0, 0⟩, ⟨.t 160, .p (.mv), [.l 10], none, 0, 0⟩, ⟨.t 161, .p (.ixsl 1), [.t 160, .c (.int .i64 0)], none, 0, 0⟩, ⟨.t 162, .r (.load false 1), [.t 161], none, 0, 0⟩, ⟨.t 164, .p (.mv), [.l 10], none, 0, 1⟩, ⟨.t 165, .p (.ixsl 1), [.t 164, .c (.int .i64 1)], none, 0, 1⟩, ⟨.t 166, .r (.load false 1), [.t 165], none, 0, 1⟩, ⟨.t 168, .p (.mv), [.l 10], none, 0, 2⟩, ⟨.t 169, .p (.ixsl 1), [.t 168, .c (.int .i64 2)], none, 0, 2⟩, ⟨.t 170, .r (.load false 1), [.t 169], none, 0, 2⟩, ⟨.t 163, .call 278, [.t 159, .t 162], none, 0, 1⟩, ⟨.t 167, .call 205, [.t 166], none, 1, 2⟩, ⟨.t 171, .call 205, [.t 170], none, 2, 3⟩, ⟨.t 172, .p (.build [(.int .i64 0), (.int .i64 0), (.int .i64 0), (.str 0 0), (.str 0 0), (.int .i64 0), .nils, (.str 0 0), (.int .i64 0)] [(0, 1), (3, 1), (2, 1), (1, 1)]), [.c (.int .i64 3), .t 163, .t 167, .t 171], none, 3, 3⟩, ⟨.no, .e (.store 9), [.l 4, .t 172], none, 3, 4⟩])
 .ret)
 (.seq (.reg [⟨.t 174, .p (.bin .eql), [.l 64, .c (.int .i64 6)], none, 0, 0⟩, ⟨.l 173, .p (.mv), [.t 174], none, 0, 0⟩])
 (.cond (.l 173) (.seq (.reg [⟨.t 175, .p (.mv), [.l 10], none, 0, 0⟩, ⟨.t 176, .p (.ixsl 1), [.t 175, .c (.int .i64 0)], none, 0, 0⟩, ⟨.t 177, .r (.load false 1), [.t 176], none, 0, 0⟩, ⟨.t 178, .p (.toInt .i64), [.t 177], none, 0, 0⟩, ⟨.t 179, .call 147, [.t 178], none, 0, 0⟩, ⟨.no, .e (.store 9), [.l 4, .t 179], none, 0, 0⟩])
 .ret)
 .skip))))))))))))))))
 (.seq (.reg [⟨.t 180, .p (.mv), [.l 0], none, 0, 0⟩, ⟨.t 181, .p (.mv), [.l 9], none, 0, 0⟩, ⟨.t 182, .p (.mv), [.l 10], none, 0, 0⟩, ⟨.t 183, .call 214, [.t 180, .t 181, .t 182], none, 0, 0⟩, ⟨.t 184, .call 225, [.t 183], none, 0, 0⟩, ⟨.no, .e (.store 9), [.l 4, .t 184], none, 0, 0⟩])
 .ret))))))))),
 [.cell (.l 4) true 9]⟩
theorem cf206_ok : compF TP Tryz.f206 = some cf206 := by kernel_rfl
def cf207 : CF := ⟨2, (.seq (.reg [⟨.l 4, .a (.alloc [(.int .i64 0), (.int .i64 0), (.int .i64 0), (.str 0 0), (.str 0 0), (.int .i64 0), .nils, (.str 0 0), (.int .i64 0)]), [], none, 0, 0⟩, ⟨.l 5, .p (.mv), [.c (.int .i64 0)], none, 0, 0⟩])
 (.seq (.seq (.reg [⟨.t 6, .p (.mv), [.l 0], none, 0, 0⟩, ⟨.t 7, .call 166, [.t 6], none, 0, 0⟩, ⟨.l 8, .p (.un .not), [.t 7], none, 0, 0⟩])
 (.cond (.l 8) (.seq (.reg [⟨.t 9, .p (.build [(.int .i64 0), (.int .i64 0), (.int .i64 0), (.str 0 0), (.str 0 0), (.int .i64 0), .nils, (.str 0 0), (.int .i64 0)] []), [], none, 0, 0⟩, ⟨.no, .e (.store 9), [.l 4, .t 9], none, 0, 0⟩, ⟨.l 5, .p (.mv), [.c (.int .i64 1)], none, 0, 0⟩])
 .ret)
 .skip))
 (.seq (.seq (.reg [⟨.t 10, .p (.mv), [.l 0], none, 0, 0⟩, ⟨.t 11, .p (.mv), [.l 1], none, 0, 0⟩, ⟨.t 12, .call 155, [.t 10, .t 11], none, 0, 0⟩, ⟨.l 13, .p (.un .not), [.t 12], none, 0, 0⟩])
 (.cond (.l 13) (.seq (.reg [⟨.t 14, .p (.build [(.int .i64 0), (.int .i64 0), (.int .i64 0), (.str 0 0), (.str 0 0), (.int .i64 0), .nils, (.str 0 0), (.int .i64 0)] []), [], none, 0, 0⟩, ⟨.no, .e (.store 9), [.l 4, .t 14], none, 0, 0⟩, ⟨.l 5, .p (.mv), [.c (.int .i64 6)], none, 0, 0⟩])
 .ret)
 .skip))
 (.seq (.reg [⟨.t 15, .p (.mv), [.l 0], none, 0, 0⟩, ⟨.t 16, .p (.mv), [.l 1], none, 0, 0⟩, ⟨.t 17, .call 206, [.t 15, .t 16], none, 0, 0⟩, ⟨.no, .e (.store 9), [.l 4, .t 17], none, 0, 0⟩, ⟨.l 5, .p (.mv), [.c (.int .i64 0)], none, 0, 0⟩])
 .ret)))),
 [.cell (.l 4) true 9, .tmp (.l 5)]⟩
theorem cf207_ok : compF TP Tryz.f207 = some cf207 := by kernel_rfl
def cf208 : CF := ⟨2, (.seq (.reg [⟨.l 2, .a (.box), [.l 0], none, 0, 0⟩, ⟨.l 3, .a (.box), [.l 1], none, 0, 0⟩, ⟨.l 4, .p (.mv), [.c (.int .i64 0)], none, 0, 0⟩])
 (.seq (.seq (.reg [⟨.t 7, .p (.fa 0), [.l 2], none, 0, 0⟩, ⟨.t 8, .r (.load false 1), [.t 7], none, 0, 0⟩, ⟨.t 9, .p (.fa 0), [.l 3], none, 0, 0⟩, ⟨.t 10, .r (.load false 1), [.t 9], none, 0, 0⟩, ⟨.t 11, .call 280, [.t 8, .t 10], none, 0, 0⟩, ⟨.l 5, .p (.mv), [.t 11], none, 0, 0⟩])
 (.seq (.reg [⟨.t 12, .p (.mv), [.l 5], none, 0, 0⟩, ⟨.l 13, .p (.bin .neq), [.t 12, .c (.int .i64 0)], none, 0, 0⟩])
 (.cond (.l 13) (.seq (.reg [⟨.t 14, .p (.mv), [.l 5], none, 0, 0⟩, ⟨.l 4, .p (.mv), [.t 14], none, 0, 0⟩])
 .ret)
 .skip)))
 (.seq (.seq (.reg [⟨.t 15, .p (.fa 0), [.l 2], none, 0, 0⟩, ⟨.l 16, .r (.load false 1), [.t 15], none, 0, 0⟩])
 (.block 0 (.seq (.reg [⟨.t 18, .p (.bin .eql), [.l 16, .c (.int .i64 7)], none, 0, 0⟩, ⟨.l 17, .p (.mv), [.t 18], none, 0, 0⟩])
 (.cond (.l 17) (.seq (.reg [⟨.t 19, .p (.fa 6), [.l 2], none, 0, 0⟩, ⟨.t 20, .r (.load false 1), [.t 19], none, 0, 0⟩, ⟨.t 21, .p (.fa 6), [.l 3], none, 0, 0⟩, ⟨.t 22, .r (.load false 1), [.t 21], none, 0, 0⟩, ⟨.t 23, .call 281, [.t 20, .t 22], none, 0, 0⟩, ⟨.l 4, .p (.mv), [.t 23], none, 0, 0⟩])
 .ret)
 (.seq (.reg [⟨.t 25, .p (.bin .eql), [.l 16, .c (.int .i64 9)], none, 0, 0⟩, ⟨.l 24, .p (.mv), [.t 25], none, 0, 0⟩])
 (.cond (.l 24) (.seq (.reg [⟨.t 26, .p (.fa 6), [.l 2], none, 0, 0⟩, ⟨.t 27, .r (.load false 1), [.t 26], none, 0, 0⟩, ⟨.t 28, .p (.fa 6), [.l 3], none, 0, 0⟩, ⟨.t 29, .r (.load false 1), [.t 28], none, 0, 0⟩, ⟨.t 30, .call 282, [.t 27, .t 29], none, 0, 0⟩, ⟨.l 4, .p (.mv), [.t 30], none, 0, 0⟩])
 .ret)
 (.seq (.reg [⟨.t 32, .p (.bin .eql), [.l 16, .c (.int .i64 10)], none, 0, 0⟩, ⟨.l 31, .p (.mv), [.t 32], none, 0, 0⟩])
 (.cond (.l 31) (.seq (.reg [⟨.t 33, .r (.load true 9), [.l 2], none, 0, 0⟩, ⟨.t 34, .r (.load true 9), [.l 3], none, 0, 0⟩, ⟨.t 35, .call 283, [.t 33, .t 34], none, 0, 0⟩, ⟨.l 4, .p (.mv), [.t 35], none, 0, 0⟩])
 .ret)
 .skip))))))))
 (.seq (.seq (.regD [⟨.t 36, .p (.fa 3), [.l 2], none, 0, 0⟩, ⟨.t 37, .r (.load false 1), [.t 36], none, 0, 0⟩, ⟨.t 38, .p (.fa 3), [.l 3], none, 0, 0⟩, ⟨.t 39, .r (.load false 1), [.t 38], none, 0, 0⟩, ⟨.t 41, .p (.fa 4), [.l 2], none, 0, 1⟩, ⟨.t 42, .r (.load false 1), [.t 41], none, 0, 1⟩, ⟨.t 43, .p (.fa 4), [.l 3], none, 0, 1⟩, ⟨.t 44, .r (.load false 1), [.t 43], none, 0, 1⟩, ⟨.t 46, .p (.fa 2), [.l 2], none, 0, 2⟩, ⟨.t 47, .r (.load false 1), [.t 46], none, 0, 2⟩, ⟨.t 48, .p (.fa 2), [.l 3], none, 0, 2⟩, ⟨.t 49, .r (.load false 1), [.t 48], none, 0, 2⟩, ⟨.t 51, .p (.fa 1), [.l 2], none, 0, 3⟩, ⟨.t 52, .r (.load false 1), [.t 51], none, 0, 3⟩, ⟨.t 53, .p (.fa 1), [.l 3], none, 0, 3⟩, ⟨.t 54, .r (.load false 1), [.t 53], none, 0, 3⟩, ⟨.t 56, .p (.fa 5), [.l 2], none, 0, 4⟩, ⟨.t 57, .r (.load false 1), [.t 56], none, 0, 4⟩, ⟨.t 58, .p (.fa 5), [.l 3], none, 0, 4⟩, ⟨.t 59, .r (.load false 1), [.t 58], none, 0, 4⟩, ⟨.t 40, .call 285, [.t 37, .t 39], none, 0, 1⟩, ⟨.t 45, .call 285, [.t 42, .t 44], none, 1, 2⟩, ⟨.t 50, .call 286, [.t 47, .t 49], none, 2, 3⟩, ⟨.t 55, .call 286, [.t 52, .t 54], none, 3, 4⟩, ⟨.t 60, .call 280, [.t 57, .t 59], none, 4, 5⟩, ⟨.t 61, .a (.bslice [(.int .i64 0)] 5 1 [(0, 1), (1, 1), (2, 1), (3, 1), (4, 1)]), [.t 40, .t 45, .t 50, .t 55, .t 60], none, 5, 5⟩, ⟨.t 62, .call 284, [.t 61], none, 5, 6⟩, ⟨.l 6, .p (.mv), [.t 62], none, 6, 6⟩])
 (.seq (.reg [⟨.t 63, .p (.mv), [.l 6], none, 0, 0⟩, ⟨.l 64, .p (.bin .neq), [.t 63, .c (.int .i64 0)], none, 0, 0⟩])
 (.cond (.l 64) (.seq (.reg [⟨.t 65, .p (.mv), [.l 6], none, 0, 0⟩, ⟨.l 4, .p (.mv), [.t 65], none, 0, 0⟩])
 .ret)
 .skip)))
 (.seq (.reg [⟨.t 66, .p (.fa 6), [.l 2], none, 0, 0⟩, ⟨.t 67, .r (.load false 1), [.t 66], none, 0, 0⟩, ⟨.t 68, .p (.fa 6), [.l 3], none, 0, 0⟩, ⟨.t 69, .r (.load false 1), [.t 68], none, 0, 0⟩, ⟨.t 70, .call 281, [.t 67, .t 69], none, 0, 0⟩, ⟨.l 4, .p (.mv), [.t 70], none, 0, 0⟩])
 .ret))))),
 [.tmp (.l 4)]⟩
theorem cf208_ok : compF TP Tryz.f208 = some cf208 := by kernel_rfl
def cf211 : CF := ⟨3, (.seq (.reg [⟨.l 3, .a (.box), [.l 0], none, 0, 0⟩, ⟨.l 6, .a (.alloc [(.int .i64 0), (.int .i64 0), (.int .i64 0), (.str 0 0), (.str 0 0), (.int .i64 0), .nils, (.str 0 0), (.int .i64 0)]), [], none, 0, 0⟩, ⟨.l 7, .a (.alloc [(.str 0 0), (.int .i64 0), (.int .i64 0), (.int .i64 0), (.str 0 0), (.str 0 0), (.int .i64 0), .nils, (.str 0 0), (.int .i64 0)]), [], none, 0, 0⟩])
 (.seq (.seq (.reg [⟨.t 13, .p (.mv), [.l 1], none, 0, 0⟩, ⟨.t 14, .p (.bin .neq), [.t 13, .c (.str 3 4009789)], none, 0, 0⟩, ⟨.t 15, .p (.mv), [.t 14], none, 0, 0⟩, ⟨.t 16, .p (.mv), [.l 1], (some (.t 15, true)), 0, 0⟩, ⟨.t 17, .call 238, [.t 16, .c (.str 1 47)], (some (.t 15, true)), 0, 0⟩, ⟨.l 18, .p (.pick), [.t 15, .t 17, .c (.bool false)], none, 0, 0⟩])
 (.cond (.l 18) (.seq (.reg [⟨.t 19, .call 222, [.c (.str 5 439787744885)], none, 0, 0⟩, ⟨.t 20, .p (.ext 0), [.t 19], none, 0, 0⟩, ⟨.t 21, .p (.ext 1), [.t 19], none, 0, 0⟩, ⟨.no, .e (.store 9), [.l 6, .t 20], none, 0, 0⟩, ⟨.no, .e (.store 10), [.l 7, .t 21], none, 0, 0⟩])
 .ret)
 .skip))
 (.seq (.reg [⟨.t 22, .p (.mv), [.l 1], none, 0, 0⟩, ⟨.t 23, .p (.bin .add), [.t 22, .c (.str 1 47)], none, 0, 0⟩, ⟨.t 24, .p (.mv), [.l 2], none, 0, 0⟩, ⟨.t 25, .p (.leng .sl), [.t 24], none, 0, 0⟩, ⟨.t 26, .call 240, [.t 25], none, 0, 0⟩, ⟨.t 27, .p (.bin .add), [.t 23, .t 26], none, 0, 0⟩, ⟨.l 8, .p (.mv), [.t 27], none, 0, 0⟩])
 (.seq (.reg [⟨.l 9, .p (.mv), [.c .nilf], none, 0, 0⟩])
 (.seq (.seq (.reg [⟨.t 28, .p (.mv), [.l 2], none, 0, 0⟩, ⟨.l 29, .p (.leng .sl), [.t 28], none, 0, 0⟩])
 (.block 0 (.seq (.block 3 (.seq (.block 2 (.seq (.block 1 (.seq (.seq (.seq (.reg [⟨.t 31, .p (.bin .eql), [.l 29, .c (.int .i64 2)], none, 0, 0⟩, ⟨.l 30, .p (.mv), [.t 31], none, 0, 0⟩])
 (.cond (.l 30) (.exit 1)
 .skip))
 (.seq (.reg [⟨.t 33, .p (.bin .eql), [.l 29, .c (.int .i64 1)], none, 0, 0⟩, ⟨.l 32, .p (.mv), [.t 33], none, 0, 0⟩])
 (.cond (.l 32) (.exit 2)
 .skip)))
 (.exit 3)))
 (.seq (.reg [⟨.t 34, .call 288, [], none, 0, 0⟩, ⟨.t 35, .p (.mv), [.l 1], none, 0, 0⟩, ⟨.t 36, .r (.lookup (.one .s) false .nilf), [.t 34, .t 35], none, 0, 0⟩, ⟨.l 9, .p (.mv), [.t 36], none, 0, 0⟩])
 (.seq (.reg [⟨.t 37, .p (.mv), [.l 9], none, 0, 0⟩, ⟨.l 38, .p (.eqd .f true), [.t 37, .c .nilf], none, 0, 0⟩])
 (.cond (.l 38) (.exit 0)
 .skip)))))
 (.seq (.reg [⟨.t 39, .call 288, [], none, 0, 0⟩, ⟨.t 40, .p (.mv), [.l 8], none, 0, 0⟩, ⟨.t 41, .r (.lookup (.one .s) false .nilf), [.t 39, .t 40], none, 0, 0⟩, ⟨.l 10, .p (.mv), [.t 41], none, 0, 0⟩])
 (.seq (.reg [⟨.t 42, .p (.mv), [.l 10], none, 0, 0⟩, ⟨.l 43, .p (.eqd .f true), [.t 42, .c .nilf], none, 0, 0⟩])
 (.cond (.l 43) (.seq (.reg [⟨.t 44, .p (.mv), [.l 10], none, 0, 0⟩, ⟨.l 9, .p (.mv), [.t 44], none, 0, 0⟩])
 (.exit 0))
 .skip)))))
 (.seq (.seq (.reg [⟨.t 45, .p (.mv), [.l 1], none, 0, 0⟩, ⟨.t 46, .p (.mv), [.l 2], none, 0, 0⟩, ⟨.t 47, .p (.leng .sl), [.t 46], none, 0, 0⟩, ⟨.l 48, .call 173, [.t 45, .t 47], none, 0, 0⟩])
 (.block 4 (.seq (.reg [⟨.t 50, .p (.bin .eql), [.l 48, .c (.int .i64 1)], none, 0, 0⟩, ⟨.l 49, .p (.mv), [.t 50], none, 0, 0⟩])
 (.cond (.l 49) (.reg [⟨.t 51, .call 289, [], none, 0, 0⟩, ⟨.t 52, .p (.mv), [.l 8], none, 0, 0⟩, ⟨.t 53, .r (.lookup (.one .s) false .nilf), [.t 51, .t 52], none, 0, 0⟩, ⟨.l 9, .p (.mv), [.t 53], none, 0, 0⟩])
 (.seq (.reg [⟨.t 55, .p (.bin .eql), [.l 48, .c (.int .i64 2)], none, 0, 0⟩, ⟨.l 54, .p (.mv), [.t 55], none, 0, 0⟩])
 (.cond (.l 54) (.reg [⟨.t 56, .call 290, [], none, 0, 0⟩, ⟨.t 57, .p (.mv), [.l 8], none, 0, 0⟩, ⟨.t 58, .r (.lookup (.one .s) false .nilf), [.t 56, .t 57], none, 0, 0⟩, ⟨.l 9, .p (.mv), [.t 58], none, 0, 0⟩])
 .skip))))))
 (.exit 0)))))
 (.seq (.seq (.reg [⟨.t 59, .p (.mv), [.l 9], none, 0, 0⟩, ⟨.l 60, .p (.eqd .f false), [.t 59, .c .nilf], none, 0, 0⟩])
 (.cond (.l 60) (.seq (.reg [⟨.t 61, .call 222, [.c (.str 5 439787744885)], none, 0, 0⟩, ⟨.t 62, .p (.ext 0), [.t 61], none, 0, 0⟩, ⟨.t 63, .p (.ext 1), [.t 61], none, 0, 0⟩, ⟨.no, .e (.store 9), [.l 6, .t 62], none, 0, 0⟩, ⟨.no, .e (.store 10), [.l 7, .t 63], none, 0, 0⟩])
 .ret)
 .skip))
 (.seq (.seq (.reg [⟨.l 64, .p (.mv), [.l 2], none, 0, 0⟩, ⟨.l 65, .p (.leng .sl), [.l 64], none, 0, 0⟩, ⟨.l 66, .p (.mv), [.c (.int .i64 0)], none, 0, 0⟩])
 (.block 5 (.loop (.seq (.reg [⟨.l 67, .p (.bin .lss), [.l 66, .l 65], none, 0, 0⟩])
 (.seq (.cond (.l 67) .skip
 (.exit 5))
 (.seq (.block 6 (.seq (.reg [⟨.t 68, .p (.ixsl 9), [.l 64, .l 66], none, 0, 0⟩, ⟨.t 69, .r (.load true 9), [.t 68], none, 0, 0⟩, ⟨.l 12, .a (.alloc [(.int .i64 0), (.int .i64 0), (.int .i64 0), (.str 0 0), (.str 0 0), (.int .i64 0), .nils, (.str 0 0), (.int .i64 0)]), [], none, 0, 0⟩, ⟨.no, .e (.store 9), [.l 12, .t 69], none, 0, 0⟩])
 (.seq (.reg [⟨.t 70, .r (.load true 9), [.l 12], none, 0, 0⟩, ⟨.t 71, .call 25, [.t 70], none, 0, 0⟩, ⟨.l 72, .p (.un .not), [.t 71], none, 0, 0⟩])
 (.cond (.l 72) (.seq (.reg [⟨.t 73, .call 222, [.c (.str 6 113740957901154)], none, 0, 0⟩, ⟨.t 74, .p (.ext 0), [.t 73], none, 0, 0⟩, ⟨.t 75, .p (.ext 1), [.t 73], none, 0, 0⟩, ⟨.no, .e (.store 9), [.l 6, .t 74], none, 0, 0⟩, ⟨.no, .e (.store 10), [.l 7, .t 75], none, 0, 0⟩])
 .ret)
 .skip))))
 (.reg [⟨.t 76, .p (.bin .add), [.l 66, .c (.int .i64 1)], none, 0, 0⟩, ⟨.l 66, .p (.mv), [.t 76], none, 0, 0⟩])))))))
 (.seq (.reg [⟨.t 77, .p (.mv), [.l 9], none, 0, 0⟩, ⟨.t 78, .r (.load true 9), [.l 3], none, 0, 0⟩, ⟨.t 79, .p (.mv), [.l 2], none, 0, 0⟩, ⟨.t 80, .p (.build [(.int .i64 0), (.int .i64 0), (.int .i64 0), (.str 0 0), (.str 0 0), (.int .i64 0), .nils, (.str 0 0), (.int .i64 0), .nils] [(0, 9), (9, 1)]), [.t 78, .t 79], none, 0, 0⟩, ⟨.t 81, .callv, [.t 77, .t 80], none, 0, 0⟩, ⟨.t 82, .p (.ext 0), [.t 81], none, 0, 0⟩, ⟨.t 83, .p (.ext 1), [.t 81], none, 0, 0⟩, ⟨.no, .e (.store 9), [.l 6, .t 82], none, 0, 0⟩, ⟨.no, .e (.store 10), [.l 7, .t 83], none, 0, 0⟩])
 .ret)))))))),
 [.cell (.l 6) true 9, .cell (.l 7) true 10]⟩
theorem cf211_ok : compF TP Tryz.f211 = some cf211 := by kernel_rfl
def cf212 : CF := ⟨1, (.seq (.reg [⟨.l 2, .p (.mv), [.c .nils], none, 0, 0⟩])
 (.seq (.seq (.reg [⟨.t 3, .p (.mv), [.l 0], none, 0, 0⟩, ⟨.l 4, .p (.eqd .s false), [.t 3, .c .nils], none, 0, 0⟩])
 (.cond (.l 4) (.seq (.reg [⟨.l 2, .p (.mv), [.c .nils], none, 0, 0⟩])
 .ret)
 .skip))
 (.seq (.reg [⟨.t 5, .a (.bslice [(.int .u64 0)] 0 1 []), [], none, 0, 0⟩, ⟨.t 6, .p (.mv), [.l 0], none, 0, 0⟩, ⟨.t 7, .e (.append 1 8 none), [.t 5, .t 6], none, 0, 0⟩, ⟨.l 2, .p (.mv), [.t 7], none, 0, 0⟩])
 .ret))),
 [.tmp (.l 2)]⟩
theorem cf212_ok : compF TP Tryz.f212 = some cf212 := by kernel_rfl
def cf222 : CF := ⟨1, (.seq (.reg [⟨.l 2, .a (.alloc [(.int .i64 0), (.int .i64 0), (.int .i64 0), (.str 0 0), (.str 0 0), (.int .i64 0), .nils, (.str 0 0), (.int .i64 0)]), [], none, 0, 0⟩, ⟨.l 3, .a (.alloc [(.str 0 0), (.int .i64 0), (.int .i64 0), (.int .i64 0), (.str 0 0), (.str 0 0), (.int .i64 0), .nils, (.str 0 0), (.int .i64 0)]), [], none, 0, 0⟩])
 (.seq (.reg [⟨.t 4, .p (.build [(.int .i64 0), (.int .i64 0), (.int .i64 0), (.str 0 0), (.str 0 0), (.int .i64 0), .nils, (.str 0 0), (.int .i64 0)] []), [], none, 0, 0⟩, ⟨.t 5, .p (.mv), [.l 0], none, 0, 0⟩, ⟨.t 6, .call 298, [.t 5], none, 0, 0⟩, ⟨.no, .e (.store 9), [.l 2, .t 4], none, 0, 0⟩, ⟨.no, .e (.store 10), [.l 3, .t 6], none, 0, 0⟩])
 .ret)),
 [.cell (.l 2) true 9, .cell (.l 3) true 10]⟩
theorem cf222_ok : compF TP Tryz.f222 = some cf222 := by kernel_rfl
def cf224 : CF := ⟨1, (.seq (.reg [⟨.l 1, .a (.box), [.l 0], none, 0, 0⟩, ⟨.l 2, .a (.alloc [(.int .i64 0), (.int .i64 0), (.int .i64 0), (.str 0 0), (.str 0 0), (.int .i64 0), .nils, (.str 0 0), (.int .i64 0)]), [], none, 0, 0⟩, ⟨.l 3, .a (.alloc [(.str 0 0), (.int .i64 0), (.int .i64 0), (.int .i64 0), (.str 0 0), (.str 0 0), (.int .i64 0), .nils, (.str 0 0), (.int .i64 0)]), [], none, 0, 0⟩])
 (.seq (.reg [⟨.t 4, .r (.load true 9), [.l 1], none, 0, 0⟩, ⟨.t 5, .p (.build [(.str 0 0), (.int .i64 0), (.int .i64 0), (.int .i64 0), (.str 0 0), (.str 0 0), (.int .i64 0), .nils, (.str 0 0), (.int .i64 0)] []), [], none, 0, 0⟩, ⟨.no, .e (.store 9), [.l 2, .t 4], none, 0, 0⟩, ⟨.no, .e (.store 10), [.l 3, .t 5], none, 0, 0⟩])
 .ret)),
 [.cell (.l 2) true 9, .cell (.l 3) true 10]⟩
theorem cf224_ok : compF TP Tryz.f224 = some cf224 := by kernel_rfl
def cf230 : CF := ⟨2, (.seq (.reg [⟨.l 4, .p (.mv), [.c (.bool false)], none, 0, 0⟩])
 (.seq (.seq (.reg [⟨.t 8, .p (.mv), [.l 1], none, 0, 0⟩, ⟨.l 9, .call 161, [.t 8], none, 0, 0⟩])
 (.block 0 (.seq (.reg [⟨.t 11, .p (.bin .eql), [.l 9, .c (.int .i64 0)], none, 0, 0⟩, ⟨.l 10, .p (.mv), [.t 11], none, 0, 0⟩])
 (.cond (.l 10) (.seq (.reg [⟨.l 4, .p (.mv), [.c (.bool false)], none, 0, 0⟩])
 .ret)
 (.seq (.reg [⟨.t 13, .p (.bin .eql), [.l 9, .c (.int .i64 3)], none, 0, 0⟩, ⟨.l 12, .p (.mv), [.t 13], none, 0, 0⟩])
 (.cond (.l 12) (.seq (.reg [⟨.t 14, .p (.mv), [.l 1], none, 0, 0⟩, ⟨.t 15, .call 299, [.t 14], none, 0, 0⟩, ⟨.l 4, .p (.mv), [.t 15], none, 0, 0⟩])
 .ret)
 .skip))))))
 (.seq (.reg [⟨.t 17, .p (.mv), [.l 0], none, 0, 0⟩, ⟨.t 18, .p (.mv), [.l 1], none, 0, 0⟩, ⟨.t 19, .call 105, [.t 17, .t 18], none, 0, 0⟩, ⟨.t 16, .p (.mv), [.t 19], none, 0, 0⟩, ⟨.t 20, .p (.ext 0), [.t 16], none, 0, 0⟩, ⟨.t 21, .p (.ext 1), [.t 16], none, 0, 0⟩, ⟨.t 22, .p (.ext 2), [.t 16], none, 0, 0⟩, ⟨.t 5, .p (.mv), [.t 20], none, 0, 0⟩, ⟨.t 6, .p (.mv), [.t 21], none, 0, 0⟩, ⟨.l 7, .p (.mv), [.t 22], none, 0, 0⟩])
 (.seq (.reg [⟨.t 23, .p (.mv), [.l 7], none, 0, 0⟩, ⟨.l 4, .p (.mv), [.t 23], none, 0, 0⟩])
 .ret)))),
 [.tmp (.l 4)]⟩
theorem cf230_ok : compF TP Tryz.f230 = some cf230 := by kernel_rfl
def cf231 : CF := ⟨1, (.seq (.reg [⟨.l 2, .p (.mv), [.c (.int .i64 0)], none, 0, 0⟩])
 (.seq (.seq (.reg [⟨.t 3, .p (.mv), [.l 0], none, 0, 0⟩, ⟨.t 4, .call 68, [.t 3], none, 0, 0⟩, ⟨.l 5, .p (.un .not), [.t 4], none, 0, 0⟩])
 (.cond (.l 5) (.seq (.reg [⟨.l 2, .p (.mv), [.c (.int .i64 0)], none, 0, 0⟩])
 .ret)
 .skip))
 (.seq (.reg [⟨.t 6, .p (.mv), [.l 0], none, 0, 0⟩, ⟨.t 7, .p (.nilc), [.t 6], none, 0, 0⟩, ⟨.t 8, .p (.fa 1), [.t 7], none, 0, 0⟩, ⟨.t 9, .r (.load false 1), [.t 8], none, 0, 0⟩, ⟨.t 10, .p (.leng .sl), [.t 9], none, 0, 0⟩, ⟨.l 2, .p (.mv), [.t 10], none, 0, 0⟩])
 .ret))),
 [.tmp (.l 2)]⟩
theorem cf231_ok : compF TP Tryz.f231 = some cf231 := by kernel_rfl
def cf232 : CF := ⟨1, (.seq (.reg [⟨.l 2, .p (.mv), [.c (.int .i64 0)], none, 0, 0⟩])
 (.seq (.reg [⟨.t 3, .p (.mv), [.l 0], none, 0, 0⟩, ⟨.t 4, .p (.bin .and), [.t 3, .c (.int .u64 15)], none, 0, 0⟩, ⟨.t 5, .p (.toInt .i64), [.t 4], none, 0, 0⟩, ⟨.l 2, .p (.mv), [.t 5], none, 0, 0⟩])
 .ret)),
 [.tmp (.l 2)]⟩
theorem cf232_ok : compF TP Tryz.f232 = some cf232 := by kernel_rfl
def cf233 : CF := ⟨1, (.seq (.reg [⟨.l 2, .p (.mv), [.c (.int .i64 0)], none, 0, 0⟩, ⟨.l 3, .p (.mv), [.c (.int .i64 0)], none, 0, 0⟩, ⟨.l 4, .p (.mv), [.c (.bool false)], none, 0, 0⟩])
 (.seq (.reg [⟨.t 5, .p (.mv), [.l 0], none, 0, 0⟩, ⟨.t 6, .p (.bin .shr), [.t 5, .c (.int .u64 2)], none, 0, 0⟩, ⟨.t 7, .p (.bin .and), [.t 6, .c (.int .u64 15)], none, 0, 0⟩, ⟨.t 8, .p (.toInt .i64), [.t 7], none, 0, 0⟩, ⟨.l 2, .p (.mv), [.t 8], none, 0, 0⟩])
 (.seq (.seq (.reg [⟨.t 9, .p (.mv), [.l 0], none, 0, 0⟩, ⟨.t 10, .call 161, [.t 9], none, 0, 0⟩, ⟨.t 11, .p (.bin .neq), [.t 10, .c (.int .i64 0)], none, 0, 0⟩, ⟨.t 12, .p (.mv), [.t 11], none, 0, 0⟩, ⟨.t 13, .p (.mv), [.l 2], (some (.t 12, false)), 0, 0⟩, ⟨.t 14, .p (.bin .lss), [.t 13, .c (.int .i64 1)], (some (.t 12, false)), 0, 0⟩, ⟨.t 15, .p (.pick), [.t 12, .c (.bool true), .t 14], none, 0, 0⟩, ⟨.t 16, .p (.mv), [.t 15], none, 0, 0⟩, ⟨.t 17, .p (.mv), [.l 2], (some (.t 16, false)), 0, 0⟩, ⟨.t 18, .p (.bin .gtr), [.t 17, .c (.int .i64 8)], (some (.t 16, false)), 0, 0⟩, ⟨.t 19, .p (.pick), [.t 16, .c (.bool true), .t 18], none, 0, 0⟩, ⟨.t 20, .p (.mv), [.t 19], none, 0, 0⟩, ⟨.t 21, .p (.mv), [.l 0], (some (.t 20, false)), 0, 0⟩, ⟨.t 22, .p (.bin .shr), [.t 21, .c (.int .u64 6)], (some (.t 20, false)), 0, 0⟩, ⟨.t 23, .p (.bin .gtr), [.t 22, .c (.int .u64 65535)], (some (.t 20, false)), 0, 0⟩, ⟨.l 24, .p (.pick), [.t 20, .c (.bool true), .t 23], none, 0, 0⟩])
 (.cond (.l 24) (.seq (.reg [⟨.l 2, .p (.mv), [.c (.int .i64 0)], none, 0, 0⟩, ⟨.l 3, .p (.mv), [.c (.int .i64 0)], none, 0, 0⟩, ⟨.l 4, .p (.mv), [.c (.bool false)], none, 0, 0⟩])
 .ret)
 .skip))
 (.seq (.reg [⟨.t 25, .p (.mv), [.l 2], none, 0, 0⟩, ⟨.t 26, .p (.mv), [.l 0], none, 0, 0⟩, ⟨.t 27, .p (.bin .shr), [.t 26, .c (.int .u64 6)], none, 0, 0⟩, ⟨.t 28, .p (.toInt .i64), [.t 27], none, 0, 0⟩, ⟨.l 2, .p (.mv), [.t 25], none, 0, 0⟩, ⟨.l 3, .p (.mv), [.t 28], none, 0, 0⟩, ⟨.l 4, .p (.mv), [.c (.bool true)], none, 0, 0⟩])
 .ret)))),
 [.tmp (.l 2), .tmp (.l 3), .tmp (.l 4)]⟩
theorem cf233_ok : compF TP Tryz.f233 = some cf233 := by kernel_rfl
def cf234 : CF := ⟨2, (.seq (.reg [⟨.l 2, .a (.box), [.l 0], none, 0, 0⟩, ⟨.l 4, .p (.mv), [.c (.bool false)], none, 0, 0⟩])
 (.seq (.reg [⟨.t 5, .p (.mv), [.l 1], none, 0, 0⟩, ⟨.t 6, .p (.mkf (.func 300) 0), [.l 2], none, 0, 0⟩, ⟨.t 7, .call 270, [.t 5, .t 6], none, 0, 0⟩, ⟨.t 8, .p (.un .not), [.t 7], none, 0, 0⟩, ⟨.l 4, .p (.mv), [.t 8], none, 0, 0⟩])
 .ret)),
 [.tmp (.l 4)]⟩
theorem cf234_ok : compF TP Tryz.f234 = some cf234 := by kernel_rfl
def cf235 : CF := ⟨4, (.seq (.reg [⟨.l 8, .p (.mv), [.c .nils], none, 0, 0⟩, ⟨.l 9, .p (.mv), [.c (.int .i64 0)], none, 0, 0⟩])
 (.seq (.reg [⟨.t 16, .p (.mv), [.l 0], none, 0, 0⟩, ⟨.t 17, .p (.mkf (.func 301) 1), [.t 16], none, 0, 0⟩, ⟨.l 10, .p (.mv), [.t 17], none, 0, 0⟩])
 (.seq (.seq (.reg [⟨.l 18, .p (.mv), [.l 1], none, 0, 0⟩])
 (.cond (.l 18) (.reg [⟨.t 19, .p (.mv), [.l 0], none, 0, 0⟩, ⟨.t 20, .p (.mkf (.func 302) 1), [.t 19], none, 0, 0⟩, ⟨.l 10, .p (.mv), [.t 20], none, 0, 0⟩])
 .skip))
 (.seq (.reg [⟨.t 22, .p (.mv), [.l 10], none, 0, 0⟩, ⟨.t 23, .p (.mv), [.l 0], none, 0, 0⟩, ⟨.t 24, .p (.nilc), [.t 23], none, 0, 0⟩, ⟨.t 25, .p (.fa 0), [.t 24], none, 0, 0⟩, ⟨.t 26, .r (.load false 1), [.t 25], none, 0, 0⟩, ⟨.t 27, .call 303, [.t 26], none, 0, 0⟩, ⟨.t 28, .p (.mv), [.l 3], none, 0, 0⟩, ⟨.t 29, .callv, [.t 22, .t 27, .t 28], none, 0, 0⟩, ⟨.t 21, .p (.mv), [.t 29], none, 0, 0⟩, ⟨.t 30, .p (.ext 0), [.t 21], none, 0, 0⟩, ⟨.t 31, .p (.ext 1), [.t 21], none, 0, 0⟩, ⟨.t 32, .p (.ext 2), [.t 21], none, 0, 0⟩, ⟨.l 11, .a (.alloc [.nils, .nils, (.int .i64 0)]), [], none, 0, 0⟩, ⟨.no, .e (.store 3), [.l 11, .t 30], none, 0, 0⟩, ⟨.l 12, .p (.mv), [.t 31], none, 0, 0⟩, ⟨.l 13, .p (.mv), [.t 32], none, 0, 0⟩])
 (.seq (.seq (.reg [⟨.t 33, .p (.mv), [.l 13], none, 0, 0⟩, ⟨.l 34, .p (.bin .neq), [.t 33, .c (.int .i64 0)], none, 0, 0⟩])
 (.cond (.l 34) (.seq (.reg [⟨.t 35, .p (.mv), [.l 13], none, 0, 0⟩, ⟨.l 8, .p (.mv), [.c .nils], none, 0, 0⟩, ⟨.l 9, .p (.mv), [.t 35], none, 0, 0⟩])
 .ret)
 .skip))
 (.seq (.reg [⟨.t 36, .p (.mv), [.l 0], none, 0, 0⟩, ⟨.t 37, .p (.nilc), [.t 36], none, 0, 0⟩, ⟨.t 38, .p (.fa 1), [.t 37], none, 0, 0⟩, ⟨.t 39, .p (.fa 0), [.t 38], none, 0, 0⟩, ⟨.t 40, .r (.load false 1), [.t 39], none, 0, 0⟩, ⟨.l 14, .p (.mv), [.t 40], none, 0, 0⟩])
 (.seq (.block 0 (.loop (.seq (.seq (.reg [⟨.t 41, .p (.mv), [.l 14], none, 0, 0⟩, ⟨.t 42, .p (.fa 0), [.l 11], none, 0, 0⟩, ⟨.t 43, .r (.load false 1), [.t 42], none, 0, 0⟩, ⟨.t 44, .p (.leng .sl), [.t 43], none, 0, 0⟩, ⟨.t 45, .p (.mv), [.l 2], none, 0, 0⟩, ⟨.t 46, .p (.bin .add), [.t 44, .t 45], none, 0, 0⟩, ⟨.l 47, .p (.bin .lss), [.t 41, .t 46], none, 0, 0⟩])
 (.cond (.l 47) .skip
 (.exit 0)))
 (.block 1 (.reg [⟨.t 48, .p (.mv), [.l 14], none, 0, 0⟩, ⟨.t 49, .p (.bin .mul), [.t 48, .c (.int .i64 2)], none, 0, 0⟩, ⟨.l 14, .p (.mv), [.t 49], none, 0, 0⟩])))))
 (.seq (.seq (.regD [⟨.t 50, .p (.mv), [.l 0], none, 0, 0⟩, ⟨.t 51, .p (.nilc), [.t 50], none, 0, 0⟩, ⟨.t 52, .p (.fa 0), [.t 51], none, 0, 0⟩, ⟨.t 53, .r (.load false 1), [.t 52], none, 0, 0⟩, ⟨.t 54, .r (.load true 3), [.l 11], none, 0, 0⟩, ⟨.t 55, .p (.mv), [.l 14], none, 0, 0⟩, ⟨.t 56, .call 304, [.t 53, .t 54, .t 55], none, 0, 1⟩, ⟨.l 15, .p (.mv), [.t 56], none, 1, 1⟩])
 (.seq (.reg [⟨.t 57, .p (.mv), [.l 15], none, 0, 0⟩, ⟨.l 58, .p (.bin .neq), [.t 57, .c (.int .i64 0)], none, 0, 0⟩])
 (.cond (.l 58) (.seq (.reg [⟨.t 59, .p (.mv), [.l 15], none, 0, 0⟩, ⟨.l 8, .p (.mv), [.c .nils], none, 0, 0⟩, ⟨.l 9, .p (.mv), [.t 59], none, 0, 0⟩])
 .ret)
 .skip)))
 (.seq (.reg [⟨.t 60, .p (.mv), [.l 12], none, 0, 0⟩, ⟨.l 8, .p (.mv), [.t 60], none, 0, 0⟩, ⟨.l 9, .p (.mv), [.c (.int .i64 0)], none, 0, 0⟩])
 .ret))))))))),
 [.tmp (.l 8), .tmp (.l 9)]⟩
theorem cf235_ok : compF TP Tryz.f235 = some cf235 := by kernel_rfl
def cf236 : CF := ⟨1, (.seq (.reg [⟨.l 2, .p (.mv), [.c (.int .u64 0)], none, 0, 0⟩, ⟨.l 3, .p (.mv), [.c (.bool false)], none, 0, 0⟩])
 (.seq (.seq (.reg [⟨.t 4, .p (.mv), [.l 0], none, 0, 0⟩, ⟨.t 5, .p (.bin .gtr), [.t 4, .c (.int .i64 576460752303423487)], none, 0, 0⟩, ⟨.t 6, .p (.mv), [.t 5], none, 0, 0⟩, ⟨.t 7, .p (.mv), [.l 0], (some (.t 6, false)), 0, 0⟩, ⟨.t 8, .p (.bin .lss), [.t 7, .c (.int .i64 (-576460752303423488))], (some (.t 6, false)), 0, 0⟩, ⟨.l 9, .p (.pick), [.t 6, .c (.bool true), .t 8], none, 0, 0⟩])
 (.cond (.l 9) (.seq (.reg [⟨.l 2, .p (.mv), [.c (.int .u64 0)], none, 0, 0⟩, ⟨.l 3, .p (.mv), [.c (.bool false)], none, 0, 0⟩])
 .ret)
 .skip))
 (.seq (.reg [⟨.t 10, .p (.mv), [.l 0], none, 0, 0⟩, ⟨.t 11, .p (.toInt .u64), [.t 10], none, 0, 0⟩, ⟨.t 12, .p (.bin .shl), [.t 11, .c (.int .u64 4)], none, 0, 0⟩, ⟨.t 13, .p (.bin .or), [.t 12, .c (.int .u64 3)], none, 0, 0⟩, ⟨.l 2, .p (.mv), [.t 13], none, 0, 0⟩, ⟨.l 3, .p (.mv), [.c (.bool true)], none, 0, 0⟩])
 .ret))),
 [.tmp (.l 2), .tmp (.l 3)]⟩
theorem cf236_ok : compF TP Tryz.f236 = some cf236 := by kernel_rfl
def cf237 : CF := ⟨2, (.seq (.reg [⟨.l 4, .p (.mv), [.c (.int .u64 0)], none, 0, 0⟩])
 (.seq (.seq (.reg [⟨.t 8, .p (.mv), [.l 1], none, 0, 0⟩, ⟨.t 9, .call 236, [.t 8], none, 0, 0⟩, ⟨.t 7, .p (.mv), [.t 9], none, 0, 0⟩, ⟨.t 10, .p (.ext 0), [.t 7], none, 0, 0⟩, ⟨.t 11, .p (.ext 1), [.t 7], none, 0, 0⟩, ⟨.l 5, .p (.mv), [.t 10], none, 0, 0⟩, ⟨.l 6, .p (.mv), [.t 11], none, 0, 0⟩])
 (.seq (.reg [⟨.l 12, .p (.mv), [.l 6], none, 0, 0⟩])
 (.cond (.l 12) (.seq (.reg [⟨.t 13, .p (.mv), [.l 5], none, 0, 0⟩, ⟨.l 4, .p (.mv), [.t 13], none, 0, 0⟩])
 .ret)
 .skip)))
 (.seq (.reg [⟨.t 14, .p (.mv), [.l 0], none, 0, 0⟩, ⟨.t 15, .p (.mv), [.l 1], none, 0, 0⟩, ⟨.t 16, .p (.toInt .u64), [.t 15], none, 0, 0⟩, ⟨.t 17, .a (.bslice [(.int .u64 0)] 1 1 [(0, 1)]), [.t 16], none, 0, 0⟩, ⟨.t 18, .call 200, [.t 14, .c (.int .i64 6), .t 17], none, 0, 0⟩, ⟨.l 4, .p (.mv), [.t 18], none, 0, 0⟩])
 .ret))),
 [.tmp (.l 4)]⟩
theorem cf237_ok : compF TP Tryz.f237 = some cf237 := by kernel_rfl
def cf239 : CF := ⟨0, (.seq (.reg [⟨.l 0, .p (.mv), [.c .nilm], none, 0, 0⟩])
 (.seq (.reg [⟨.t 3, .a (.mkm false), [], none, 0, 0⟩, ⟨.l 1, .a (.alloc [.nilm]), [], none, 0, 0⟩, ⟨.no, .e (.store 1), [.l 1, .t 3], none, 0, 0⟩])
 (.seq (.reg [⟨.t 4, .p (.mkf (.func 306) 0), [.l 1], none, 0, 0⟩, ⟨.l 2, .p (.mv), [.t 4], none, 0, 0⟩])
 (.seq (.reg [⟨.t 5, .p (.mv), [.l 2], none, 0, 0⟩, ⟨.t 6, .callv, [.t 5, .c (.int .i64 1), .c (.str 211 2643788049237875746027353956421256579877879755938887535316951059759369592555717365339016263365027618501812524394041916456107630935882219539062654111784106688242807265108499006909579367619711043370541396788490473410751723451644814999429197375349848118121197291676110575868848611747558760119856467310971821053183838999261785706908127509286587510957382674167142064579141726276195335717799002842036464030059972223758517794073400569462703278420382076657222687305171158147755303688062608438613618907131909108626281)], none, 0, 0⟩])
 (.seq (.reg [⟨.t 7, .p (.mv), [.l 2], none, 0, 0⟩, ⟨.t 8, .callv, [.t 7, .c (.int .i64 2), .c (.str 130 2309567611550875277204994674161353649923820728840937906004022259955814384767430420713629540289955323346488897252243258610309243515909333067562535498886036825999362825657067591809416156955820597497462137324242345962628091659841284438982893644934511546577333868034346565100900555615209792057877126969041213629687155)], none, 0, 0⟩])
 (.seq (.reg [⟨.t 9, .p (.mv), [.l 2], none, 0, 0⟩, ⟨.t 10, .callv, [.t 9, .c (.int .i64 3), .c (.str 326 23432797193871199407333496422669012367299329756827031624297655228348896489652091995020903033051514005582240654107251283804193553897754980763464707855962905347494948165397241680072134641162834970075957098854109284145689297344697482720779276625903820634785204952066235328051174553452503356106246011490484894671724025188345757335091502307861111567946691652232448241457647053841496573471555992490563340102516511656375177173333262957809226356687276663106690246514868571292902185291786131212997716888408723455673227194122100111222777000526364432920838613382261280238070156172435011051979694305378415251427278940642021762430988511956155483968407454369334577920402672521885831115680086389877854951673720855015018618345684868760042338146632436122985681635754182370565935330268791689787050389619)], none, 0, 0⟩])
 (.seq (.reg [⟨.t 11, .p (.mv), [.l 2], none, 0, 0⟩, ⟨.t 12, .callv, [.t 11, .c (.int .i64 4), .c (.str 15 265770033204623512752161048958627937)], none, 0, 0⟩])
 (.seq (.reg [⟨.t 13, .r (.load false 1), [.l 1], none, 0, 0⟩, ⟨.l 0, .p (.mv), [.t 13], none, 0, 0⟩])
 .ret)))))))),
 [.tmp (.l 0)]⟩
theorem cf239_ok : compF TP Tryz.f239 = some cf239 := by kernel_rfl
def cf240 : CF := ⟨1, (.seq (.reg [⟨.l 2, .p (.mv), [.c (.str 0 0)], none, 0, 0⟩])
 (.seq (.reg [⟨.l 3, .a (.alloc [(.int .u8 0), (.int .u8 0), (.int .u8 0), (.int .u8 0), (.int .u8 0), (.int .u8 0), (.int .u8 0), (.int .u8 0), (.int .u8 0), (.int .u8 0), (.int .u8 0), (.int .u8 0), (.int .u8 0), (.int .u8 0), (.int .u8 0), (.int .u8 0), (.int .u8 0), (.int .u8 0), (.int .u8 0), (.int .u8 0)]), [], none, 0, 0⟩])
 (.seq (.reg [⟨.l 4, .p (.mv), [.c (.int .i64 20)], none, 0, 0⟩])
 (.seq (.seq (.reg [⟨.t 6, .p (.mv), [.l 0], none, 0, 0⟩, ⟨.t 7, .call 308, [.t 6], none, 0, 0⟩, ⟨.l 5, .p (.mv), [.t 7], none, 0, 0⟩])
 (.block 0 (.loop (.seq (.block 1 (.seq (.reg [⟨.t 10, .p (.mv), [.l 4], none, 0, 0⟩, ⟨.t 11, .p (.bin .sub), [.t 10, .c (.int .i64 1)], none, 0, 0⟩, ⟨.l 4, .p (.mv), [.t 11], none, 0, 0⟩])
 (.seq (.reg [⟨.t 12, .p (.mv), [.l 4], none, 0, 0⟩, ⟨.t 13, .p (.mv), [.l 5], none, 0, 0⟩, ⟨.t 14, .p (.bin .rem), [.t 13, .c (.int .u64 10)], none, 0, 0⟩, ⟨.t 15, .p (.bin .add), [.c (.int .u64 48), .t 14], none, 0, 0⟩, ⟨.t 16, .p (.toInt .u8), [.t 15], none, 0, 0⟩, ⟨.t 17, .p (.ixarrp 20 1), [.l 3, .t 12], none, 0, 0⟩, ⟨.no, .e (.store 1), [.t 17, .t 16], none, 0, 0⟩])
 (.seq (.reg [⟨.t 18, .p (.mv), [.l 5], none, 0, 0⟩, ⟨.l 19, .p (.bin .lss), [.t 18, .c (.int .u64 10)], none, 0, 0⟩])
 (.cond (.l 19) (.exit 0)
 .skip)))))
 (.reg [⟨.t 8, .p (.mv), [.l 5], none, 0, 0⟩, ⟨.t 9, .p (.bin .quo), [.t 8, .c (.int .u64 10)], none, 0, 0⟩, ⟨.l 5, .p (.mv), [.t 9], none, 0, 0⟩])))))
 (.seq (.seq (.reg [⟨.t 20, .p (.mv), [.l 0], none, 0, 0⟩, ⟨.l 21, .p (.bin .lss), [.t 20, .c (.int .i64 0)], none, 0, 0⟩])
 (.cond (.l 21) (.seq (.reg [⟨.t 22, .p (.mv), [.l 4], none, 0, 0⟩, ⟨.t 23, .p (.bin .sub), [.t 22, .c (.int .i64 1)], none, 0, 0⟩, ⟨.l 4, .p (.mv), [.t 23], none, 0, 0⟩])
 (.reg [⟨.t 24, .p (.mv), [.l 4], none, 0, 0⟩, ⟨.t 25, .p (.ixarrp 20 1), [.l 3, .t 24], none, 0, 0⟩, ⟨.no, .e (.store 1), [.t 25, .c (.int .u8 45)], none, 0, 0⟩]))
 .skip))
 (.seq (.reg [⟨.t 26, .p (.mv), [.l 4], none, 0, 0⟩, ⟨.t 27, .p (.slc (.arr 20 1) true false false), [.l 3, .t 26], none, 0, 0⟩, ⟨.t 28, .r (.b2s), [.t 27], none, 0, 0⟩, ⟨.l 2, .p (.mv), [.t 28], none, 0, 0⟩])
 .ret)))))),
 [.tmp (.l 2)]⟩
theorem cf240_ok : compF TP Tryz.f240 = some cf240 := by kernel_rfl
def cf243 : CF := ⟨1, (.seq (.reg [⟨.l 2, .p (.mv), [.c .nils], none, 0, 0⟩])
 (.seq (.block 0 (.loop (.seq (.seq (.reg [⟨.t 3, .p (.mv), [.l 0], none, 0, 0⟩, ⟨.t 4, .p (.leng .sl), [.t 3], none, 0, 0⟩, ⟨.t 5, .p (.bin .gtr), [.t 4, .c (.int .i64 0)], none, 0, 0⟩, ⟨.t 6, .p (.mv), [.t 5], none, 0, 0⟩, ⟨.t 7, .p (.mv), [.l 0], (some (.t 6, true)), 0, 0⟩, ⟨.t 8, .p (.mv), [.l 0], (some (.t 6, true)), 0, 0⟩, ⟨.t 9, .p (.leng .sl), [.t 8], (some (.t 6, true)), 0, 0⟩, ⟨.t 10, .p (.bin .sub), [.t 9, .c (.int .i64 1)], (some (.t 6, true)), 0, 0⟩, ⟨.t 11, .p (.ixsl 1), [.t 7, .t 10], (some (.t 6, true)), 0, 0⟩, ⟨.t 12, .r (.load false 1), [.t 11], (some (.t 6, true)), 0, 0⟩, ⟨.t 13, .p (.bin .eql), [.t 12, .c (.int .i64 0)], (some (.t 6, true)), 0, 0⟩, ⟨.l 14, .p (.pick), [.t 6, .t 13, .c (.bool false)], none, 0, 0⟩])
 (.cond (.l 14) .skip
 (.exit 0)))
 (.block 1 (.reg [⟨.t 15, .p (.mv), [.l 0], none, 0, 0⟩, ⟨.t 16, .p (.mv), [.l 0], none, 0, 0⟩, ⟨.t 17, .p (.leng .sl), [.t 16], none, 0, 0⟩, ⟨.t 18, .p (.bin .sub), [.t 17, .c (.int .i64 1)], none, 0, 0⟩, ⟨.t 19, .p (.slc (.sl 1) false true false), [.t 15, .t 18], none, 0, 0⟩, ⟨.l 0, .p (.mv), [.t 19], none, 0, 0⟩])))))
 (.seq (.reg [⟨.t 20, .p (.mv), [.l 0], none, 0, 0⟩, ⟨.l 2, .p (.mv), [.t 20], none, 0, 0⟩])
 .ret))),
 [.tmp (.l 2)]⟩
theorem cf243_ok : compF TP Tryz.f243 = some cf243 := by kernel_rfl
def cf244 : CF := ⟨3, (.seq (.reg [⟨.l 5, .a (.box), [.l 2], none, 0, 0⟩, ⟨.l 6, .p (.mv), [.c (.int .i64 0)], none, 0, 0⟩, ⟨.l 7, .p (.mv), [.c (.int .i64 0)], none, 0, 0⟩])
 (.seq (.seq (.reg [⟨.t 10, .p (.fa 0), [.l 5], none, 0, 0⟩, ⟨.l 11, .r (.load false 1), [.t 10], none, 0, 0⟩])
 (.block 0 (.seq (.reg [⟨.t 13, .p (.bin .eql), [.l 11, .c (.int .i64 1)], none, 0, 0⟩, ⟨.l 12, .p (.mv), [.t 13], none, 0, 0⟩])
 (.cond (.l 12) (.seq (.reg [⟨.t 14, .p (.mv), [.l 1], none, 0, 0⟩, ⟨.t 15, .p (.fa 1), [.l 5], none, 0, 0⟩, ⟨.t 16, .r (.load false 1), [.t 15], none, 0, 0⟩, ⟨.t 17, .call 246, [.t 14, .t 16], none, 0, 0⟩, ⟨.l 8, .p (.mv), [.t 17], none, 0, 0⟩])
 (.seq (.reg [⟨.t 18, .p (.mv), [.l 8], none, 0, 0⟩, ⟨.t 19, .p (.mv), [.l 8], none, 0, 0⟩, ⟨.t 20, .p (.bin .eql), [.t 19, .c (.int .i64 0)], none, 0, 0⟩, ⟨.t 21, .call 182, [.t 20, .c (.int .i64 186)], none, 0, 0⟩, ⟨.l 6, .p (.mv), [.t 18], none, 0, 0⟩, ⟨.l 7, .p (.mv), [.t 21], none, 0, 0⟩])
 .ret))
 (.seq (.reg [⟨.t 23, .p (.bin .eql), [.l 11, .c (.int .i64 2)], none, 0, 0⟩, ⟨.l 22, .p (.mv), [.t 23], none, 0, 0⟩])
 (.cond (.l 22) (.seq (.seq (.regD [⟨.t 24, .p (.fa 1), [.l 5], none, 0, 0⟩, ⟨.t 25, .r (.load false 1), [.t 24], none, 0, 0⟩, ⟨.t 26, .p (.mv), [.l 1], none, 0, 0⟩, ⟨.t 27, .p (.nilc), [.t 26], none, 0, 0⟩, ⟨.t 28, .p (.fa 0), [.t 27], none, 0, 0⟩, ⟨.t 29, .r (.load false 1), [.t 28], none, 0, 0⟩, ⟨.l 30, .p (.bin .geq), [.t 25, .t 29], none, 0, 0⟩])
 (.cond (.l 30) (.seq (.reg [⟨.l 6, .p (.mv), [.c (.int .i64 0)], none, 0, 0⟩, ⟨.l 7, .p (.mv), [.c (.int .i64 181)], none, 0, 0⟩])
 .ret)
 .skip))
 (.seq (.regD [⟨.t 31, .p (.mv), [.l 1], none, 0, 0⟩, ⟨.t 32, .p (.nilc), [.t 31], none, 0, 0⟩, ⟨.t 33, .p (.fa 2), [.t 32], none, 0, 0⟩, ⟨.t 34, .r (.load false 1), [.t 33], none, 0, 0⟩, ⟨.t 35, .p (.fa 1), [.l 5], none, 0, 0⟩, ⟨.t 36, .r (.load false 1), [.t 35], none, 0, 0⟩, ⟨.t 37, .p (.ixsl 1), [.t 34, .t 36], none, 0, 0⟩, ⟨.t 38, .r (.load false 1), [.t 37], none, 0, 0⟩, ⟨.l 6, .p (.mv), [.t 38], none, 0, 0⟩, ⟨.l 7, .p (.mv), [.c (.int .i64 0)], none, 0, 0⟩])
 .ret))
 .skip))))))
 (.seq (.seq (.regD [⟨.t 39, .p (.mv), [.l 0], none, 0, 0⟩, ⟨.t 40, .p (.nilc), [.t 39], none, 0, 0⟩, ⟨.t 41, .p (.fa 0), [.t 40], none, 0, 0⟩, ⟨.t 42, .r (.load false 1), [.t 41], none, 0, 0⟩, ⟨.t 43, .p (.nilc), [.t 42], none, 0, 0⟩, ⟨.t 44, .p (.fa 2), [.t 43], none, 0, 0⟩, ⟨.t 45, .r (.load false 1), [.t 44], none, 0, 0⟩, ⟨.t 46, .p (.fa 1), [.l 5], none, 0, 0⟩, ⟨.t 47, .r (.load false 1), [.t 46], none, 0, 0⟩, ⟨.t 48, .p (.ixsl 9), [.t 45, .t 47], none, 0, 0⟩, ⟨.l 9, .p (.mv), [.t 48], none, 0, 0⟩])
 (.seq (.reg [⟨.t 49, .p (.mv), [.l 9], none, 0, 0⟩, ⟨.t 50, .p (.nilc), [.t 49], none, 0, 0⟩, ⟨.t 51, .p (.fa 0), [.t 50], none, 0, 0⟩, ⟨.l 52, .r (.load false 1), [.t 51], none, 0, 0⟩])
 (.block 1 (.seq (.reg [⟨.t 54, .p (.bin .eql), [.l 52, .c (.int .i64 9)], none, 0, 0⟩, ⟨.l 53, .p (.mv), [.t 54], none, 0, 0⟩])
 (.cond (.l 53) (.seq (.reg [⟨.l 6, .p (.mv), [.c (.int .i64 2)], none, 0, 0⟩, ⟨.l 7, .p (.mv), [.c (.int .i64 0)], none, 0, 0⟩])
 .ret)
 (.seq (.reg [⟨.t 56, .p (.bin .eql), [.l 52, .c (.int .i64 7)], none, 0, 0⟩, ⟨.l 55, .p (.mv), [.t 56], none, 0, 0⟩])
 (.cond (.l 55) (.seq (.reg [⟨.t 57, .p (.mv), [.l 9], none, 0, 0⟩, ⟨.t 58, .p (.nilc), [.t 57], none, 0, 0⟩, ⟨.t 59, .p (.fa 6), [.t 58], none, 0, 0⟩, ⟨.t 60, .r (.load false 1), [.t 59], none, 0, 0⟩, ⟨.t 61, .p (.leng .sl), [.t 60], none, 0, 0⟩, ⟨.t 62, .p (.bin .add), [.c (.int .i64 3), .t 61], none, 0, 0⟩, ⟨.l 6, .p (.mv), [.t 62], none, 0, 0⟩, ⟨.l 7, .p (.mv), [.c (.int .i64 0)], none, 0, 0⟩])
 .ret)
 .skip)))))))
 (.seq (.reg [⟨.l 6, .p (.mv), [.c (.int .i64 1)], none, 0, 0⟩, ⟨.l 7, .p (.mv), [.c (.int .i64 0)], none, 0, 0⟩])
 .ret)))),
 [.tmp (.l 6), .tmp (.l 7)]⟩
theorem cf244_ok : compF TP Tryz.f244 = some cf244 := by kernel_rfl
def cf245 : CF := ⟨2, (.seq (.reg [⟨.l 4, .p (.mv), [.c (.int .i64 0)], none, 0, 0⟩])
 (.seq (.seq (.reg [⟨.t 5, .p (.mv), [.l 1], none, 0, 0⟩, ⟨.t 6, .p (.nilc), [.t 5], none, 0, 0⟩, ⟨.t 7, .p (.fa 0), [.t 6], none, 0, 0⟩, ⟨.l 8, .r (.load false 1), [.t 7], none, 0, 0⟩])
 (.block 0 (.seq (.seq (.reg [⟨.t 10, .p (.bin .eql), [.l 8, .c (.int .i64 15)], none, 0, 0⟩, ⟨.l 9, .p (.mv), [.t 10], none, 0, 0⟩])
 (.cond (.l 9) .skip
 (.seq (.reg [⟨.t 11, .p (.bin .eql), [.l 8, .c (.int .i64 18)], none, 0, 0⟩, ⟨.l 9, .p (.mv), [.t 11], none, 0, 0⟩])
 (.cond (.l 9) .skip
 (.seq (.reg [⟨.t 12, .p (.bin .eql), [.l 8, .c (.int .i64 19)], none, 0, 0⟩, ⟨.l 9, .p (.mv), [.t 12], none, 0, 0⟩])
 (.cond (.l 9) .skip
 (.seq (.reg [⟨.t 13, .p (.bin .eql), [.l 8, .c (.int .i64 20)], none, 0, 0⟩, ⟨.l 9, .p (.mv), [.t 13], none, 0, 0⟩])
 (.cond (.l 9) .skip
 (.reg [⟨.t 14, .p (.bin .eql), [.l 8, .c (.int .i64 21)], none, 0, 0⟩, ⟨.l 9, .p (.mv), [.t 14], none, 0, 0⟩])))))))))
 (.cond (.l 9) (.seq (.reg [⟨.t 15, .p (.mv), [.l 1], none, 0, 0⟩, ⟨.t 16, .p (.nilc), [.t 15], none, 0, 0⟩, ⟨.t 17, .p (.fa 5), [.t 16], none, 0, 0⟩, ⟨.t 18, .r (.load false 1), [.t 17], none, 0, 0⟩, ⟨.l 4, .p (.mv), [.t 18], none, 0, 0⟩])
 .ret)
 (.seq (.seq (.reg [⟨.t 20, .p (.bin .eql), [.l 8, .c (.int .i64 16)], none, 0, 0⟩, ⟨.l 19, .p (.mv), [.t 20], none, 0, 0⟩])
 (.cond (.l 19) .skip
 (.reg [⟨.t 21, .p (.bin .eql), [.l 8, .c (.int .i64 17)], none, 0, 0⟩, ⟨.l 19, .p (.mv), [.t 21], none, 0, 0⟩])))
 (.cond (.l 19) (.seq (.regD [⟨.t 22, .p (.mv), [.l 0], none, 0, 0⟩, ⟨.t 23, .p (.nilc), [.t 22], none, 0, 0⟩, ⟨.t 24, .p (.fa 0), [.t 23], none, 0, 0⟩, ⟨.t 25, .r (.load false 1), [.t 24], none, 0, 0⟩, ⟨.t 26, .p (.nilc), [.t 25], none, 0, 0⟩, ⟨.t 27, .p (.fa 3), [.t 26], none, 0, 0⟩, ⟨.t 28, .r (.load false 1), [.t 27], none, 0, 0⟩, ⟨.t 29, .p (.mv), [.l 1], none, 0, 0⟩, ⟨.t 30, .p (.nilc), [.t 29], none, 0, 0⟩, ⟨.t 31, .p (.fa 5), [.t 30], none, 0, 0⟩, ⟨.t 32, .r (.load false 1), [.t 31], none, 0, 0⟩, ⟨.t 33, .p (.ixsl 4), [.t 28, .t 32], none, 0, 0⟩, ⟨.t 34, .p (.fa 1), [.t 33], none, 0, 0⟩, ⟨.t 35, .r (.load false 1), [.t 34], none, 0, 0⟩, ⟨.l 4, .p (.mv), [.t 35], none, 0, 0⟩])
 .ret)
 (.seq (.reg [⟨.t 37, .p (.bin .eql), [.l 8, .c (.int .i64 26)], none, 0, 0⟩, ⟨.l 36, .p (.mv), [.t 37], none, 0, 0⟩])
 (.cond (.l 36) (.seq (.reg [⟨.l 4, .p (.mv), [.c (.int .i64 1)], none, 0, 0⟩])
 .ret)
 .skip))))))))
 (.seq (.reg [⟨.l 4, .p (.mv), [.c (.int .i64 0)], none, 0, 0⟩])
 .ret))),
 [.tmp (.l 4)]⟩
theorem cf245_ok : compF TP Tryz.f245 = some cf245 := by kernel_rfl
def cf246 : CF := ⟨2, (.seq (.reg [⟨.l 4, .p (.mv), [.c (.int .i64 0)], none, 0, 0⟩])
 (.seq (.seq (.reg [⟨.t 5, .p (.mv), [.l 1], none, 0, 0⟩, ⟨.t 6, .p (.mv), [.l 0], none, 0, 0⟩, ⟨.t 7, .p (.nilc), [.t 6], none, 0, 0⟩, ⟨.t 8, .p (.fa 1), [.t 7], none, 0, 0⟩, ⟨.t 9, .r (.load false 1), [.t 8], none, 0, 0⟩, ⟨.t 10, .p (.leng .sl), [.t 9], none, 0, 0⟩, ⟨.l 11, .p (.bin .lss), [.t 5, .t 10], none, 0, 0⟩])
 (.cond (.l 11) (.seq (.reg [⟨.t 12, .p (.mv), [.l 0], none, 0, 0⟩, ⟨.t 13, .p (.nilc), [.t 12], none, 0, 0⟩, ⟨.t 14, .p (.fa 1), [.t 13], none, 0, 0⟩, ⟨.t 15, .r (.load false 1), [.t 14], none, 0, 0⟩, ⟨.t 16, .p (.mv), [.l 1], none, 0, 0⟩, ⟨.t 17, .p (.ixsl 1), [.t 15, .t 16], none, 0, 0⟩, ⟨.t 18, .r (.load false 1), [.t 17], none, 0, 0⟩, ⟨.l 4, .p (.mv), [.t 18], none, 0, 0⟩])
 .ret)
 .skip))
 (.seq (.reg [⟨.l 4, .p (.mv), [.c (.int .i64 0)], none, 0, 0⟩])
 .ret))),
 [.tmp (.l 4)]⟩
theorem cf246_ok : compF TP Tryz.f246 = some cf246 := by kernel_rfl
def cf247 : CF := ⟨3, (.seq (.reg [⟨.l 6, .p (.mv), [.c (.int .i64 0)], none, 0, 0⟩])
 (.seq (.block 0 (.seq (.reg [⟨.t 10, .p (.mv), [.l 2], none, 0, 0⟩, ⟨.t 11, .p (.nilc), [.t 10], none, 0, 0⟩, ⟨.t 12, .p (.fa 0), [.t 11], none, 0, 0⟩, ⟨.t 13, .r (.load false 1), [.t 12], none, 0, 0⟩, ⟨.t 14, .p (.bin .eql), [.t 13, .c (.int .i64 1)], none, 0, 0⟩, ⟨.l 9, .p (.mv), [.t 14], none, 0, 0⟩])
 (.cond (.l 9) (.seq (.reg [⟨.t 16, .p (.mv), [.l 0], none, 0, 0⟩, ⟨.t 17, .p (.mv), [.l 1], none, 0, 0⟩, ⟨.t 18, .p (.mv), [.l 2], none, 0, 0⟩, ⟨.t 19, .p (.nilc), [.t 18], none, 0, 0⟩, ⟨.t 20, .p (.fa 3), [.t 19], none, 0, 0⟩, ⟨.t 21, .r (.load false 1), [.t 20], none, 0, 0⟩, ⟨.t 22, .p (.ixsl 2), [.t 21, .c (.int .i64 0)], none, 0, 0⟩, ⟨.t 23, .r (.load true 2), [.t 22], none, 0, 0⟩, ⟨.t 24, .call 244, [.t 16, .t 17, .t 23], none, 0, 0⟩, ⟨.t 15, .p (.mv), [.t 24], none, 0, 0⟩, ⟨.t 25, .p (.ext 0), [.t 15], none, 0, 0⟩, ⟨.t 26, .p (.ext 1), [.t 15], none, 0, 0⟩, ⟨.l 7, .p (.mv), [.t 25], none, 0, 0⟩, ⟨.t 8, .p (.mv), [.t 26], none, 0, 0⟩])
 (.seq (.reg [⟨.t 27, .p (.mv), [.l 7], none, 0, 0⟩, ⟨.l 6, .p (.mv), [.t 27], none, 0, 0⟩])
 .ret))
 (.seq (.seq (.reg [⟨.t 29, .p (.mv), [.l 2], none, 0, 0⟩, ⟨.t 30, .p (.nilc), [.t 29], none, 0, 0⟩, ⟨.t 31, .p (.fa 0), [.t 30], none, 0, 0⟩, ⟨.t 32, .r (.load false 1), [.t 31], none, 0, 0⟩, ⟨.t 33, .p (.bin .eql), [.t 32, .c (.int .i64 2)], none, 0, 0⟩, ⟨.l 28, .p (.mv), [.t 33], none, 0, 0⟩])
 (.cond (.l 28) .skip
 (.reg [⟨.t 34, .p (.mv), [.l 2], none, 0, 0⟩, ⟨.t 35, .p (.nilc), [.t 34], none, 0, 0⟩, ⟨.t 36, .p (.fa 0), [.t 35], none, 0, 0⟩, ⟨.t 37, .r (.load false 1), [.t 36], none, 0, 0⟩, ⟨.t 38, .p (.bin .eql), [.t 37, .c (.int .i64 13)], none, 0, 0⟩, ⟨.t 39, .p (.mv), [.t 38], none, 0, 0⟩, ⟨.t 40, .p (.mv), [.l 2], (some (.t 39, true)), 0, 0⟩, ⟨.t 41, .p (.nilc), [.t 40], (some (.t 39, true)), 0, 0⟩, ⟨.t 42, .p (.fa 7), [.t 41], (some (.t 39, true)), 0, 0⟩, ⟨.t 43, .r (.load false 1), [.t 42], (some (.t 39, true)), 0, 0⟩, ⟨.t 44, .p (.bin .eql), [.t 43, .c (.str 2 32123)], (some (.t 39, true)), 0, 0⟩, ⟨.t 45, .p (.pick), [.t 39, .t 44, .c (.bool false)], none, 0, 0⟩, ⟨.l 28, .p (.mv), [.t 45], none, 0, 0⟩])))
 (.cond (.l 28) (.seq (.reg [⟨.t 46, .p (.mv), [.l 2], none, 0, 0⟩, ⟨.t 47, .p (.nilc), [.t 46], none, 0, 0⟩, ⟨.t 48, .p (.fa 3), [.t 47], none, 0, 0⟩, ⟨.t 49, .r (.load false 1), [.t 48], none, 0, 0⟩, ⟨.t 50, .p (.leng .sl), [.t 49], none, 0, 0⟩, ⟨.t 51, .p (.bin .add), [.c (.int .i64 3), .t 50], none, 0, 0⟩, ⟨.l 6, .p (.mv), [.t 51], none, 0, 0⟩])
 .ret)
 (.seq (.seq (.reg [⟨.t 53, .p (.mv), [.l 2], none, 0, 0⟩, ⟨.t 54, .p (.nilc), [.t 53], none, 0, 0⟩, ⟨.t 55, .p (.fa 0), [.t 54], none, 0, 0⟩, ⟨.t 56, .r (.load false 1), [.t 55], none, 0, 0⟩, ⟨.t 57, .p (.bin .eql), [.t 56, .c (.int .i64 3)], none, 0, 0⟩, ⟨.l 52, .p (.mv), [.t 57], none, 0, 0⟩])
 (.cond (.l 52) .skip
 (.reg [⟨.t 58, .p (.mv), [.l 2], none, 0, 0⟩, ⟨.t 59, .p (.nilc), [.t 58], none, 0, 0⟩, ⟨.t 60, .p (.fa 0), [.t 59], none, 0, 0⟩, ⟨.t 61, .r (.load false 1), [.t 60], none, 0, 0⟩, ⟨.t 62, .p (.bin .eql), [.t 61, .c (.int .i64 13)], none, 0, 0⟩, ⟨.t 63, .p (.mv), [.t 62], none, 0, 0⟩, ⟨.t 64, .p (.mv), [.l 2], (some (.t 63, true)), 0, 0⟩, ⟨.t 65, .p (.nilc), [.t 64], (some (.t 63, true)), 0, 0⟩, ⟨.t 66, .p (.fa 7), [.t 65], (some (.t 63, true)), 0, 0⟩, ⟨.t 67, .r (.load false 1), [.t 66], (some (.t 63, true)), 0, 0⟩, ⟨.t 68, .p (.bin .eql), [.t 67, .c (.str 1 124)], (some (.t 63, true)), 0, 0⟩, ⟨.t 69, .p (.pick), [.t 63, .t 68, .c (.bool false)], none, 0, 0⟩, ⟨.l 52, .p (.mv), [.t 69], none, 0, 0⟩])))
 (.cond (.l 52) (.seq (.reg [⟨.l 6, .p (.mv), [.c (.int .i64 2)], none, 0, 0⟩])
 .ret)
 .skip)))))))
 (.seq (.reg [⟨.l 6, .p (.mv), [.c (.int .i64 1)], none, 0, 0⟩])
 .ret))),
 [.tmp (.l 6)]⟩
theorem cf247_ok : compF TP Tryz.f247 = some cf247 := by kernel_rfl
def cf248 : CF := ⟨1, (.seq (.reg [⟨.l 2, .p (.mv), [.c (.bool false)], none, 0, 0⟩])
 (.seq (.seq (.reg [⟨.l 3, .p (.mv), [.l 0], none, 0, 0⟩])
 (.block 0 (.seq (.seq (.reg [⟨.t 5, .p (.bin .eql), [.l 3, .c (.int .i64 2)], none, 0, 0⟩, ⟨.l 4, .p (.mv), [.t 5], none, 0, 0⟩])
 (.cond (.l 4) .skip
 (.seq (.reg [⟨.t 6, .p (.bin .eql), [.l 3, .c (.int .i64 3)], none, 0, 0⟩, ⟨.l 4, .p (.mv), [.t 6], none, 0, 0⟩])
 (.cond (.l 4) .skip
 (.seq (.reg [⟨.t 7, .p (.bin .eql), [.l 3, .c (.int .i64 4)], none, 0, 0⟩, ⟨.l 4, .p (.mv), [.t 7], none, 0, 0⟩])
 (.cond (.l 4) .skip
 (.seq (.reg [⟨.t 8, .p (.bin .eql), [.l 3, .c (.int .i64 13)], none, 0, 0⟩, ⟨.l 4, .p (.mv), [.t 8], none, 0, 0⟩])
 (.cond (.l 4) .skip
 (.seq (.reg [⟨.t 9, .p (.bin .eql), [.l 3, .c (.int .i64 14)], none, 0, 0⟩, ⟨.l 4, .p (.mv), [.t 9], none, 0, 0⟩])
 (.cond (.l 4) .skip
 (.seq (.reg [⟨.t 10, .p (.bin .eql), [.l 3, .c (.int .i64 31)], none, 0, 0⟩, ⟨.l 4, .p (.mv), [.t 10], none, 0, 0⟩])
 (.cond (.l 4) .skip
 (.seq (.reg [⟨.t 11, .p (.bin .eql), [.l 3, .c (.int .i64 32)], none, 0, 0⟩, ⟨.l 4, .p (.mv), [.t 11], none, 0, 0⟩])
 (.cond (.l 4) .skip
 (.seq (.reg [⟨.t 12, .p (.bin .eql), [.l 3, .c (.int .i64 33)], none, 0, 0⟩, ⟨.l 4, .p (.mv), [.t 12], none, 0, 0⟩])
 (.cond (.l 4) .skip
 (.reg [⟨.t 13, .p (.bin .eql), [.l 3, .c (.int .i64 35)], none, 0, 0⟩, ⟨.l 4, .p (.mv), [.t 13], none, 0, 0⟩])))))))))))))))))
 (.cond (.l 4) (.seq (.reg [⟨.l 2, .p (.mv), [.c (.bool true)], none, 0, 0⟩])
 .ret)
 .skip))))
 (.seq (.reg [⟨.l 2, .p (.mv), [.c (.bool false)], none, 0, 0⟩])
 .ret))),
 [.tmp (.l 2)]⟩
theorem cf248_ok : compF TP Tryz.f248 = some cf248 := by kernel_rfl
def cf249 : CF := ⟨3, (.seq (.reg [⟨.l 4, .a (.box), [.l 1], none, 0, 0⟩, ⟨.l 6, .p (.mv), [.c .nilp], none, 0, 0⟩])
 (.seq (.reg [⟨.t 9, .p (.mv), [.l 0], none, 0, 0⟩, ⟨.t 10, .p (.nilc), [.t 9], none, 0, 0⟩, ⟨.t 11, .r (.load true 7), [.t 10], none, 0, 0⟩, ⟨.l 7, .a (.alloc [(.int .i64 0), .nils, .nils, .nils, (.bool false), (.int .i64 0), (.int .i64 0)]), [], none, 0, 0⟩, ⟨.no, .e (.store 7), [.l 7, .t 11], none, 0, 0⟩])
 (.seq (.seq (.reg [⟨.t 12, .p (.fa 0), [.l 4], none, 0, 0⟩, ⟨.l 13, .r (.load false 1), [.t 12], none, 0, 0⟩])
 (.block 0 (.seq (.reg [⟨.t 15, .p (.bin .eql), [.l 13, .c (.int .i64 1)], none, 0, 0⟩, ⟨.l 14, .p (.mv), [.t 15], none, 0, 0⟩])
 (.cond (.l 14) (.seq (.reg [⟨.t 16, .p (.mv), [.l 0], none, 0, 0⟩, ⟨.t 17, .p (.nilc), [.t 16], none, 0, 0⟩, ⟨.t 18, .p (.fa 1), [.t 17], none, 0, 0⟩, ⟨.t 19, .r (.load false 1), [.t 18], none, 0, 0⟩, ⟨.t 20, .call 251, [.t 19], none, 0, 0⟩, ⟨.l 8, .p (.mv), [.t 20], none, 0, 0⟩])
 (.seq (.block 1 (.loop (.seq (.seq (.reg [⟨.t 21, .p (.mv), [.l 8], none, 0, 0⟩, ⟨.t 22, .p (.leng .sl), [.t 21], none, 0, 0⟩, ⟨.t 23, .p (.fa 1), [.l 4], none, 0, 0⟩, ⟨.t 24, .r (.load false 1), [.t 23], none, 0, 0⟩, ⟨.l 25, .p (.bin .leq), [.t 22, .t 24], none, 0, 0⟩])
 (.cond (.l 25) .skip
 (.exit 1)))
 (.block 2 (.reg [⟨.t 26, .p (.mv), [.l 8], none, 0, 0⟩, ⟨.t 27, .a (.bslice [(.int .i64 0)] 1 1 [(0, 1)]), [.c (.int .i64 0)], none, 0, 0⟩, ⟨.t 28, .e (.append 1 8 none), [.t 26, .t 27], none, 0, 0⟩, ⟨.l 8, .p (.mv), [.t 28], none, 0, 0⟩])))))
 (.seq (.reg [⟨.t 29, .p (.mv), [.l 8], none, 0, 0⟩, ⟨.t 30, .p (.fa 1), [.l 4], none, 0, 0⟩, ⟨.t 31, .r (.load false 1), [.t 30], none, 0, 0⟩, ⟨.t 32, .p (.mv), [.l 2], none, 0, 0⟩, ⟨.t 33, .p (.ixsl 1), [.t 29, .t 31], none, 0, 0⟩, ⟨.no, .e (.store 1), [.t 33, .t 32], none, 0, 0⟩])
 (.reg [⟨.t 34, .p (.mv), [.l 8], none, 0, 0⟩, ⟨.t 35, .call 243, [.t 34], none, 0, 0⟩, ⟨.t 36, .p (.fa 1), [.l 7], none, 0, 0⟩, ⟨.no, .e (.store 1), [.t 36, .t 35], none, 0, 0⟩]))))
 (.seq (.reg [⟨.t 38, .p (.bin .eql), [.l 13, .c (.int .i64 2)], none, 0, 0⟩, ⟨.l 37, .p (.mv), [.t 38], none, 0, 0⟩])
 (.cond (.l 37) (.seq (.reg [⟨.t 39, .p (.mv), [.l 0], none, 0, 0⟩, ⟨.t 40, .p (.nilc), [.t 39], none, 0, 0⟩, ⟨.t 41, .p (.fa 2), [.t 40], none, 0, 0⟩, ⟨.t 42, .r (.load false 1), [.t 41], none, 0, 0⟩, ⟨.t 43, .call 251, [.t 42], none, 0, 0⟩, ⟨.t 44, .p (.fa 2), [.l 7], none, 0, 0⟩, ⟨.no, .e (.store 1), [.t 44, .t 43], none, 0, 0⟩])
 (.reg [⟨.t 45, .p (.fa 2), [.l 7], none, 0, 0⟩, ⟨.t 46, .r (.load false 1), [.t 45], none, 0, 0⟩, ⟨.t 47, .p (.fa 1), [.l 4], none, 0, 0⟩, ⟨.t 48, .r (.load false 1), [.t 47], none, 0, 0⟩, ⟨.t 49, .p (.mv), [.l 2], none, 0, 0⟩, ⟨.t 50, .p (.ixsl 1), [.t 46, .t 48], none, 0, 0⟩, ⟨.no, .e (.store 1), [.t 50, .t 49], none, 0, 0⟩]))
 .skip))))))
 (.seq (.reg [⟨.l 6, .p (.mv), [.l 7], none, 0, 0⟩])
 .ret)))),
 [.tmp (.l 6)]⟩
theorem cf249_ok : compF TP Tryz.f249 = some cf249 := by kernel_rfl
def cf251 : CF := ⟨1, (.seq (.reg [⟨.l 2, .p (.mv), [.c .nils], none, 0, 0⟩])
 (.seq (.seq (.reg [⟨.t 3, .p (.mv), [.l 0], none, 0, 0⟩, ⟨.l 4, .p (.eqd .s false), [.t 3, .c .nils], none, 0, 0⟩])
 (.cond (.l 4) (.seq (.reg [⟨.l 2, .p (.mv), [.c .nils], none, 0, 0⟩])
 .ret)
 .skip))
 (.seq (.reg [⟨.t 5, .a (.bslice [(.int .i64 0)] 0 1 []), [], none, 0, 0⟩, ⟨.t 6, .p (.mv), [.l 0], none, 0, 0⟩, ⟨.t 7, .e (.append 1 8 none), [.t 5, .t 6], none, 0, 0⟩, ⟨.l 2, .p (.mv), [.t 7], none, 0, 0⟩])
 .ret))),
 [.tmp (.l 2)]⟩
theorem cf251_ok : compF TP Tryz.f251 = some cf251 := by kernel_rfl
def cf252 : CF := ⟨2, (.seq (.reg [⟨.l 2, .a (.box), [.l 0], none, 0, 0⟩, ⟨.l 3, .a (.box), [.l 1], none, 0, 0⟩, ⟨.l 4, .p (.mv), [.c .nilf], none, 0, 0⟩])
 (.seq (.reg [⟨.t 5, .p (.mkf (.func 309) 0), [.l 2, .l 3], none, 0, 0⟩, ⟨.l 4, .p (.mv), [.t 5], none, 0, 0⟩])
 .ret)),
 [.tmp (.l 4)]⟩
theorem cf252_ok : compF TP Tryz.f252 = some cf252 := by kernel_rfl
def cf253 : CF := ⟨1, (.seq (.reg [⟨.t 3, .p (.mv), [.l 0], none, 0, 0⟩, ⟨.t 4, .p (.leng .sl), [.t 3], none, 0, 0⟩, ⟨.l 2, .p (.mv), [.t 4], none, 0, 0⟩])
 (.reg [⟨.t 5, .p (.mv), [.l 0], none, 0, 0⟩, ⟨.t 6, .p (.mv), [.l 2], none, 0, 0⟩, ⟨.t 7, .p (.mv), [.l 2], none, 0, 0⟩, ⟨.t 8, .p (.toInt .u64), [.t 7], none, 0, 0⟩, ⟨.t 9, .call 311, [.t 8], none, 0, 0⟩, ⟨.t 10, .call 310, [.t 5, .c (.int .i64 0), .t 6, .t 9], none, 0, 0⟩])),
 []⟩
theorem cf253_ok : compF TP Tryz.f253 = some cf253 := by kernel_rfl
def cf254 : CF := ⟨1, (.seq (.reg [⟨.l 2, .p (.mv), [.c .nils], none, 0, 0⟩])
 (.seq (.seq (.reg [⟨.t 6, .p (.mv), [.l 0], none, 0, 0⟩, ⟨.t 7, .p (.leng .sl), [.t 6], none, 0, 0⟩, ⟨.l 8, .p (.bin .lss), [.t 7, .c (.int .i64 2)], none, 0, 0⟩])
 (.cond (.l 8) (.seq (.reg [⟨.t 9, .p (.mv), [.l 0], none, 0, 0⟩, ⟨.l 2, .p (.mv), [.t 9], none, 0, 0⟩])
 .ret)
 .skip))
 (.seq (.seq (.reg [⟨.l 3, .p (.mv), [.c (.int .i64 1)], none, 0, 0⟩])
 (.block 0 (.loop (.seq (.seq (.reg [⟨.t 10, .p (.mv), [.l 3], none, 0, 0⟩, ⟨.t 11, .p (.mv), [.l 0], none, 0, 0⟩, ⟨.t 12, .p (.leng .sl), [.t 11], none, 0, 0⟩, ⟨.l 13, .p (.bin .lss), [.t 10, .t 12], none, 0, 0⟩])
 (.cond (.l 13) .skip
 (.exit 0)))
 (.seq (.block 1 (.seq (.regD [⟨.t 16, .p (.mv), [.l 0], none, 0, 0⟩, ⟨.t 17, .p (.mv), [.l 3], none, 0, 0⟩, ⟨.t 18, .p (.ixsl 1), [.t 16, .t 17], none, 0, 0⟩, ⟨.t 19, .r (.load false 1), [.t 18], none, 0, 0⟩, ⟨.t 20, .p (.mv), [.l 0], none, 0, 0⟩, ⟨.t 21, .p (.mv), [.l 3], none, 0, 0⟩, ⟨.t 22, .p (.bin .sub), [.t 21, .c (.int .i64 1)], none, 0, 0⟩, ⟨.t 23, .p (.ixsl 1), [.t 20, .t 22], none, 0, 0⟩, ⟨.t 24, .r (.load false 1), [.t 23], none, 0, 0⟩, ⟨.l 25, .p (.bin .eql), [.t 19, .t 24], none, 0, 0⟩])
 (.cond (.l 25) (.seq (.reg [⟨.t 26, .p (.mv), [.l 0], none, 0, 0⟩, ⟨.t 27, .p (.mv), [.l 3], none, 0, 0⟩, ⟨.t 28, .p (.slc (.sl 1) true false false), [.t 26, .t 27], none, 0, 0⟩, ⟨.l 4, .p (.mv), [.t 28], none, 0, 0⟩])
 (.seq (.seq (.reg [⟨.l 5, .p (.mv), [.c (.int .i64 1)], none, 0, 0⟩])
 (.block 2 (.loop (.seq (.seq (.reg [⟨.t 29, .p (.mv), [.l 5], none, 0, 0⟩, ⟨.t 30, .p (.mv), [.l 4], none, 0, 0⟩, ⟨.t 31, .p (.leng .sl), [.t 30], none, 0, 0⟩, ⟨.l 32, .p (.bin .lss), [.t 29, .t 31], none, 0, 0⟩])
 (.cond (.l 32) .skip
 (.exit 2)))
 (.seq (.block 3 (.seq (.regD [⟨.t 35, .p (.mv), [.l 4], none, 0, 0⟩, ⟨.t 36, .p (.mv), [.l 5], none, 0, 0⟩, ⟨.t 37, .p (.ixsl 1), [.t 35, .t 36], none, 0, 0⟩, ⟨.t 38, .r (.load false 1), [.t 37], none, 0, 0⟩, ⟨.t 39, .p (.mv), [.l 4], none, 0, 0⟩, ⟨.t 40, .p (.mv), [.l 5], none, 0, 0⟩, ⟨.t 41, .p (.bin .sub), [.t 40, .c (.int .i64 1)], none, 0, 0⟩, ⟨.t 42, .p (.ixsl 1), [.t 39, .t 41], none, 0, 0⟩, ⟨.t 43, .r (.load false 1), [.t 42], none, 0, 0⟩, ⟨.l 44, .p (.bin .neq), [.t 38, .t 43], none, 0, 0⟩])
 (.cond (.l 44) (.seq (.reg [⟨.t 45, .p (.mv), [.l 0], none, 0, 0⟩, ⟨.t 46, .p (.mv), [.l 3], none, 0, 0⟩, ⟨.t 47, .p (.mv), [.l 4], none, 0, 0⟩, ⟨.t 48, .p (.mv), [.l 5], none, 0, 0⟩, ⟨.t 49, .p (.ixsl 1), [.t 47, .t 48], none, 0, 0⟩, ⟨.t 50, .r (.load false 1), [.t 49], none, 0, 0⟩, ⟨.t 51, .p (.ixsl 1), [.t 45, .t 46], none, 0, 0⟩, ⟨.no, .e (.store 1), [.t 51, .t 50], none, 0, 0⟩])
 (.reg [⟨.t 52, .p (.mv), [.l 3], none, 0, 0⟩, ⟨.t 53, .p (.bin .add), [.t 52, .c (.int .i64 1)], none, 0, 0⟩, ⟨.l 3, .p (.mv), [.t 53], none, 0, 0⟩]))
 .skip)))
 (.reg [⟨.t 33, .p (.mv), [.l 5], none, 0, 0⟩, ⟨.t 34, .p (.bin .add), [.t 33, .c (.int .i64 1)], none, 0, 0⟩, ⟨.l 5, .p (.mv), [.t 34], none, 0, 0⟩]))))))
 (.seq (.reg [⟨.t 54, .p (.mv), [.l 0], none, 0, 0⟩, ⟨.t 55, .p (.mv), [.l 3], none, 0, 0⟩, ⟨.t 56, .p (.slc (.sl 1) true false false), [.t 54, .t 55], none, 0, 0⟩, ⟨.no, .e (.clear [(.int .i64 0)]), [.t 56], none, 0, 0⟩])
 (.seq (.reg [⟨.t 57, .p (.mv), [.l 0], none, 0, 0⟩, ⟨.t 58, .p (.mv), [.l 3], none, 0, 0⟩, ⟨.t 59, .p (.slc (.sl 1) false true false), [.t 57, .t 58], none, 0, 0⟩, ⟨.l 2, .p (.mv), [.t 59], none, 0, 0⟩])
 .ret))))
 .skip)))
 (.reg [⟨.t 14, .p (.mv), [.l 3], none, 0, 0⟩, ⟨.t 15, .p (.bin .add), [.t 14, .c (.int .i64 1)], none, 0, 0⟩, ⟨.l 3, .p (.mv), [.t 15], none, 0, 0⟩]))))))
 (.seq (.reg [⟨.t 60, .p (.mv), [.l 0], none, 0, 0⟩, ⟨.l 2, .p (.mv), [.t 60], none, 0, 0⟩])
 .ret)))),
 [.tmp (.l 2)]⟩
theorem cf254_ok : compF TP Tryz.f254 = some cf254 := by kernel_rfl
def cf255 : CF := ⟨2, (.seq (.reg [⟨.l 4, .p (.mv), [.c (.int .i64 0)], none, 0, 0⟩])
 (.seq (.seq (.reg [⟨.t 6, .p (.mv), [.l 0], none, 0, 0⟩, ⟨.l 7, .p (.leng .sl), [.t 6], none, 0, 0⟩, ⟨.l 8, .p (.mv), [.c (.int .i64 0)], none, 0, 0⟩])
 (.block 0 (.loop (.seq (.reg [⟨.l 9, .p (.bin .lss), [.l 8, .l 7], none, 0, 0⟩])
 (.seq (.cond (.l 9) .skip
 (.exit 0))
 (.seq (.block 1 (.seq (.reg [⟨.t 10, .p (.mv), [.l 8], none, 0, 0⟩, ⟨.l 5, .p (.mv), [.t 10], none, 0, 0⟩])
 (.seq (.reg [⟨.t 11, .p (.mv), [.l 1], none, 0, 0⟩, ⟨.t 12, .p (.mv), [.l 0], none, 0, 0⟩, ⟨.t 13, .p (.mv), [.l 5], none, 0, 0⟩, ⟨.t 14, .p (.ixsl 2), [.t 12, .t 13], none, 0, 0⟩, ⟨.t 15, .r (.load true 2), [.t 14], none, 0, 0⟩, ⟨.l 16, .callv, [.t 11, .t 15], none, 0, 0⟩])
 (.cond (.l 16) (.seq (.reg [⟨.t 17, .p (.mv), [.l 5], none, 0, 0⟩, ⟨.l 4, .p (.mv), [.t 17], none, 0, 0⟩])
 .ret)
 .skip))))
 (.reg [⟨.t 18, .p (.bin .add), [.l 8, .c (.int .i64 1)], none, 0, 0⟩, ⟨.l 8, .p (.mv), [.t 18], none, 0, 0⟩])))))))
 (.seq (.reg [⟨.l 4, .p (.mv), [.c (.int .i64 (-1))], none, 0, 0⟩])
 .ret))),
 [.tmp (.l 4)]⟩
theorem cf255_ok : compF TP Tryz.f255 = some cf255 := by kernel_rfl
def cf256 : CF := ⟨1, (.seq (.reg [⟨.l 1, .a (.box), [.l 0], none, 0, 0⟩, ⟨.l 2, .a (.alloc [(.int .i64 0), (.int .i64 0), (.int .i64 0), (.str 0 0), (.str 0 0), (.int .i64 0), .nils, (.str 0 0), (.int .i64 0)]), [], none, 0, 0⟩, ⟨.l 3, .p (.mv), [.c (.bool false)], none, 0, 0⟩])
 (.seq (.reg [⟨.t 5, .p (.fa 1), [.l 1], none, 0, 0⟩, ⟨.t 6, .r (.load false 1), [.t 5], none, 0, 0⟩, ⟨.t 7, .call 257, [.t 6, .c (.int .i64 1), .c (.int .i64 2147483647)], none, 0, 0⟩, ⟨.t 8, .p (.mv), [.t 7], none, 0, 0⟩, ⟨.t 9, .p (.fa 2), [.l 1], (some (.t 8, true)), 0, 0⟩, ⟨.t 10, .r (.load false 1), [.t 9], (some (.t 8, true)), 0, 0⟩, ⟨.t 11, .call 257, [.t 10, .c (.int .i64 1), .c (.int .i64 2147483647)], (some (.t 8, true)), 0, 0⟩, ⟨.t 12, .p (.pick), [.t 8, .t 11, .c (.bool false)], none, 0, 0⟩, ⟨.t 13, .p (.mv), [.t 12], none, 0, 0⟩, ⟨.t 14, .p (.fa 3), [.l 1], (some (.t 13, true)), 0, 0⟩, ⟨.t 15, .r (.load false 1), [.t 14], (some (.t 13, true)), 0, 0⟩, ⟨.t 16, .call 36, [.t 15], (some (.t 13, true)), 0, 0⟩, ⟨.t 17, .p (.pick), [.t 13, .t 16, .c (.bool false)], none, 0, 0⟩, ⟨.l 4, .p (.mv), [.t 17], none, 0, 0⟩])
 (.seq (.reg [⟨.t 18, .p (.fa 1), [.l 1], none, 0, 0⟩, ⟨.no, .e (.store 1), [.t 18, .c (.int .i64 0)], none, 0, 0⟩, ⟨.t 19, .p (.fa 2), [.l 1], none, 0, 0⟩, ⟨.no, .e (.store 1), [.t 19, .c (.int .i64 0)], none, 0, 0⟩, ⟨.t 20, .p (.fa 3), [.l 1], none, 0, 0⟩, ⟨.no, .e (.store 1), [.t 20, .c (.str 0 0)], none, 0, 0⟩])
 (.seq (.reg [⟨.t 21, .r (.load true 9), [.l 1], none, 0, 0⟩, ⟨.t 22, .p (.mv), [.l 4], none, 0, 0⟩, ⟨.no, .e (.store 9), [.l 2, .t 21], none, 0, 0⟩, ⟨.l 3, .p (.mv), [.t 22], none, 0, 0⟩])
 .ret)))),
 [.cell (.l 2) true 9, .tmp (.l 3)]⟩
theorem cf256_ok : compF TP Tryz.f256 = some cf256 := by kernel_rfl
def cf257 : CF := ⟨3, (.seq (.reg [⟨.l 6, .p (.mv), [.c (.bool false)], none, 0, 0⟩])
 (.seq (.reg [⟨.t 7, .p (.mv), [.l 0], none, 0, 0⟩, ⟨.t 8, .p (.mv), [.l 1], none, 0, 0⟩, ⟨.t 9, .p (.bin .geq), [.t 7, .t 8], none, 0, 0⟩, ⟨.t 10, .p (.mv), [.t 9], none, 0, 0⟩, ⟨.t 11, .p (.mv), [.l 0], (some (.t 10, true)), 0, 0⟩, ⟨.t 12, .p (.mv), [.l 2], (some (.t 10, true)), 0, 0⟩, ⟨.t 13, .p (.bin .leq), [.t 11, .t 12], (some (.t 10, true)), 0, 0⟩, ⟨.t 14, .p (.pick), [.t 10, .t 13, .c (.bool false)], none, 0, 0⟩, ⟨.l 6, .p (.mv), [.t 14], none, 0, 0⟩])
 .ret)),
 [.tmp (.l 6)]⟩
theorem cf257_ok : compF TP Tryz.f257 = some cf257 := by kernel_rfl
def cf258 : CF := ⟨1, (.seq (.reg [⟨.l 1, .a (.box), [.l 0], none, 0, 0⟩, ⟨.l 2, .a (.alloc [(.int .i64 0), (.int .i64 0), (.int .i64 0), (.str 0 0), (.str 0 0), (.int .i64 0), .nils, (.str 0 0), (.int .i64 0)]), [], none, 0, 0⟩, ⟨.l 3, .p (.mv), [.c (.bool false)], none, 0, 0⟩])
 (.seq (.reg [⟨.t 4, .r (.load true 9), [.l 1], none, 0, 0⟩, ⟨.no, .e (.store 9), [.l 2, .t 4], none, 0, 0⟩, ⟨.l 3, .p (.mv), [.c (.bool false)], none, 0, 0⟩])
 .ret)),
 [.cell (.l 2) true 9, .tmp (.l 3)]⟩
theorem cf258_ok : compF TP Tryz.f258 = some cf258 := by kernel_rfl
def cf259 : CF := ⟨1, (.seq (.reg [⟨.l 1, .a (.box), [.l 0], none, 0, 0⟩, ⟨.l 2, .a (.alloc [(.int .i64 0), (.int .i64 0), (.int .i64 0), (.str 0 0), (.str 0 0), (.int .i64 0), .nils, (.str 0 0), (.int .i64 0)]), [], none, 0, 0⟩, ⟨.l 3, .p (.mv), [.c (.bool false)], none, 0, 0⟩])
 (.seq (.reg [⟨.t 4, .p (.fa 1), [.l 1], none, 0, 0⟩, ⟨.no, .e (.store 1), [.t 4, .c (.int .i64 0)], none, 0, 0⟩])
 (.seq (.reg [⟨.t 5, .r (.load true 9), [.l 1], none, 0, 0⟩, ⟨.no, .e (.store 9), [.l 2, .t 5], none, 0, 0⟩, ⟨.l 3, .p (.mv), [.c (.bool true)], none, 0, 0⟩])
 .ret))),
 [.cell (.l 2) true 9, .tmp (.l 3)]⟩
theorem cf259_ok : compF TP Tryz.f259 = some cf259 := by kernel_rfl
def cf260 : CF := ⟨1, (.seq (.reg [⟨.l 1, .a (.box), [.l 0], none, 0, 0⟩, ⟨.l 2, .a (.alloc [(.int .i64 0), (.int .i64 0), (.int .i64 0), (.str 0 0), (.str 0 0), (.int .i64 0), .nils, (.str 0 0), (.int .i64 0)]), [], none, 0, 0⟩, ⟨.l 3, .p (.mv), [.c (.bool false)], none, 0, 0⟩])
 (.seq (.reg [⟨.t 5, .p (.fa 3), [.l 1], none, 0, 0⟩, ⟨.t 6, .r (.load false 1), [.t 5], none, 0, 0⟩, ⟨.t 7, .call 36, [.t 6], none, 0, 0⟩, ⟨.l 4, .p (.mv), [.t 7], none, 0, 0⟩])
 (.seq (.reg [⟨.t 8, .p (.fa 3), [.l 1], none, 0, 0⟩, ⟨.no, .e (.store 1), [.t 8, .c (.str 0 0)], none, 0, 0⟩])
 (.seq (.reg [⟨.t 9, .r (.load true 9), [.l 1], none, 0, 0⟩, ⟨.t 10, .p (.mv), [.l 4], none, 0, 0⟩, ⟨.no, .e (.store 9), [.l 2, .t 9], none, 0, 0⟩, ⟨.l 3, .p (.mv), [.t 10], none, 0, 0⟩])
 .ret)))),
 [.cell (.l 2) true 9, .tmp (.l 3)]⟩
theorem cf260_ok : compF TP Tryz.f260 = some cf260 := by kernel_rfl
def cf267 : CF := ⟨2, (.seq (.reg [⟨.l 2, .a (.box), [.l 0], none, 0, 0⟩, ⟨.l 3, .a (.box), [.l 1], none, 0, 0⟩, ⟨.l 4, .p (.mv), [.c (.bool false)], none, 0, 0⟩])
 (.seq (.reg [⟨.t 5, .p (.fa 0), [.l 2], none, 0, 0⟩, ⟨.t 6, .r (.load false 1), [.t 5], none, 0, 0⟩, ⟨.t 7, .p (.fa 0), [.l 3], none, 0, 0⟩, ⟨.t 8, .r (.load false 1), [.t 7], none, 0, 0⟩, ⟨.t 9, .p (.bin .eql), [.t 6, .t 8], none, 0, 0⟩, ⟨.t 10, .p (.mv), [.t 9], none, 0, 0⟩, ⟨.t 11, .p (.fa 1), [.l 2], (some (.t 10, true)), 0, 0⟩, ⟨.t 12, .r (.load false 1), [.t 11], (some (.t 10, true)), 0, 0⟩, ⟨.t 13, .p (.fa 1), [.l 3], (some (.t 10, true)), 0, 0⟩, ⟨.t 14, .r (.load false 1), [.t 13], (some (.t 10, true)), 0, 0⟩, ⟨.t 15, .p (.bin .eql), [.t 12, .t 14], (some (.t 10, true)), 0, 0⟩, ⟨.t 16, .p (.pick), [.t 10, .t 15, .c (.bool false)], none, 0, 0⟩, ⟨.t 17, .p (.mv), [.t 16], none, 0, 0⟩, ⟨.t 18, .p (.fa 2), [.l 2], (some (.t 17, true)), 0, 0⟩, ⟨.t 19, .r (.load false 1), [.t 18], (some (.t 17, true)), 0, 0⟩, ⟨.t 20, .p (.fa 2), [.l 3], (some (.t 17, true)), 0, 0⟩, ⟨.t 21, .r (.load false 1), [.t 20], (some (.t 17, true)), 0, 0⟩, ⟨.t 22, .p (.bin .eql), [.t 19, .t 21], (some (.t 17, true)), 0, 0⟩, ⟨.t 23, .p (.pick), [.t 17, .t 22, .c (.bool false)], none, 0, 0⟩, ⟨.t 24, .p (.mv), [.t 23], none, 0, 0⟩, ⟨.t 25, .p (.fa 3), [.l 2], (some (.t 24, true)), 0, 0⟩, ⟨.t 26, .r (.load false 1), [.t 25], (some (.t 24, true)), 0, 0⟩, ⟨.t 27, .p (.fa 3), [.l 3], (some (.t 24, true)), 0, 0⟩, ⟨.t 28, .r (.load false 1), [.t 27], (some (.t 24, true)), 0, 0⟩, ⟨.t 29, .p (.bin .eql), [.t 26, .t 28], (some (.t 24, true)), 0, 0⟩, ⟨.t 30, .p (.pick), [.t 24, .t 29, .c (.bool false)], none, 0, 0⟩, ⟨.t 31, .p (.mv), [.t 30], none, 0, 0⟩, ⟨.t 32, .p (.fa 4), [.l 2], (some (.t 31, true)), 0, 0⟩, ⟨.t 33, .r (.load false 1), [.t 32], (some (.t 31, true)), 0, 0⟩, ⟨.t 34, .p (.fa 4), [.l 3], (some (.t 31, true)), 0, 0⟩, ⟨.t 35, .r (.load false 1), [.t 34], (some (.t 31, true)), 0, 0⟩, ⟨.t 36, .p (.bin .eql), [.t 33, .t 35], (some (.t 31, true)), 0, 0⟩, ⟨.t 37, .p (.pick), [.t 31, .t 36, .c (.bool false)], none, 0, 0⟩, ⟨.t 38, .p (.mv), [.t 37], none, 0, 0⟩, ⟨.t 39, .p (.fa 5), [.l 2], (some (.t 38, true)), 0, 0⟩, ⟨.t 40, .r (.load false 1), [.t 39], (some (.t 38, true)), 0, 0⟩, ⟨.t 41, .p (.fa 5), [.l 3], (some (.t 38, true)), 0, 0⟩, ⟨.t 42, .r (.load false 1), [.t 41], (some (.t 38, true)), 0, 0⟩, ⟨.t 43, .p (.bin .eql), [.t 40, .t 42], (some (.t 38, true)), 0, 0⟩, ⟨.t 44, .p (.pick), [.t 38, .t 43, .c (.bool false)], none, 0, 0⟩, ⟨.t 45, .p (.mv), [.t 44], none, 0, 0⟩, ⟨.t 46, .p (.fa 7), [.l 2], (some (.t 45, true)), 0, 0⟩, ⟨.t 47, .r (.load false 1), [.t 46], (some (.t 45, true)), 0, 0⟩, ⟨.t 48, .p (.fa 7), [.l 3], (some (.t 45, true)), 0, 0⟩, ⟨.t 49, .r (.load false 1), [.t 48], (some (.t 45, true)), 0, 0⟩, ⟨.t 50, .p (.bin .eql), [.t 47, .t 49], (some (.t 45, true)), 0, 0⟩, ⟨.t 51, .p (.pick), [.t 45, .t 50, .c (.bool false)], none, 0, 0⟩, ⟨.t 52, .p (.mv), [.t 51], none, 0, 0⟩, ⟨.t 53, .p (.fa 8), [.l 2], (some (.t 52, true)), 0, 0⟩, ⟨.t 54, .r (.load false 1), [.t 53], (some (.t 52, true)), 0, 0⟩, ⟨.t 55, .p (.fa 8), [.l 3], (some (.t 52, true)), 0, 0⟩, ⟨.t 56, .r (.load false 1), [.t 55], (some (.t 52, true)), 0, 0⟩, ⟨.t 57, .p (.bin .eql), [.t 54, .t 56], (some (.t 52, true)), 0, 0⟩, ⟨.t 58, .p (.pick), [.t 52, .t 57, .c (.bool false)], none, 0, 0⟩, ⟨.t 59, .p (.mv), [.t 58], none, 0, 0⟩, ⟨.t 60, .p (.fa 6), [.l 2], (some (.t 59, true)), 0, 0⟩, ⟨.t 61, .r (.load false 1), [.t 60], (some (.t 59, true)), 0, 0⟩, ⟨.t 62, .p (.fa 6), [.l 3], (some (.t 59, true)), 0, 0⟩, ⟨.t 63, .r (.load false 1), [.t 62], (some (.t 59, true)), 0, 0⟩, ⟨.t 64, .call 312, [.t 61, .t 63, .c (.func (.func 267) [] [])], (some (.t 59, true)), 0, 0⟩, ⟨.t 65, .p (.pick), [.t 59, .t 64, .c (.bool false)], none, 0, 0⟩, ⟨.l 4, .p (.mv), [.t 65], none, 0, 0⟩])
 .ret)),
 [.tmp (.l 4)]⟩
theorem cf267_ok : compF TP Tryz.f267 = some cf267 := by kernel_rfl
def cf268 : CF := ⟨2, (.seq (.reg [⟨.l 4, .p (.mv), [.c (.bool false)], none, 0, 0⟩])
 (.seq (.reg [⟨.t 5, .p (.mv), [.l 0], none, 0, 0⟩, ⟨.t 6, .p (.mv), [.l 1], none, 0, 0⟩, ⟨.t 7, .call 313, [.t 5, .t 6], none, 0, 0⟩, ⟨.t 8, .p (.bin .geq), [.t 7, .c (.int .i64 0)], none, 0, 0⟩, ⟨.l 4, .p (.mv), [.t 8], none, 0, 0⟩])
 .ret)),
 [.tmp (.l 4)]⟩
theorem cf268_ok : compF TP Tryz.f268 = some cf268 := by kernel_rfl
def cf270 : CF := ⟨2, (.seq (.reg [⟨.l 4, .p (.mv), [.c (.bool false)], none, 0, 0⟩])
 (.seq (.reg [⟨.t 5, .p (.mv), [.l 0], none, 0, 0⟩, ⟨.t 6, .p (.mv), [.l 1], none, 0, 0⟩, ⟨.t 7, .call 314, [.t 5, .t 6], none, 0, 0⟩, ⟨.t 8, .p (.bin .geq), [.t 7, .c (.int .i64 0)], none, 0, 0⟩, ⟨.l 4, .p (.mv), [.t 8], none, 0, 0⟩])
 .ret)),
 [.tmp (.l 4)]⟩
theorem cf270_ok : compF TP Tryz.f270 = some cf270 := by kernel_rfl
def cf277 : CF := ⟨1, (.seq (.reg [⟨.l 2, .p (.mv), [.c (.int .u64 0)], none, 0, 0⟩, ⟨.l 3, .p (.mv), [.c (.bool false)], none, 0, 0⟩])
 (.seq (.seq (.reg [⟨.t 4, .p (.mv), [.l 0], none, 0, 0⟩, ⟨.t 5, .p (.bin .lss), [.t 4, .c (.int .i64 0)], none, 0, 0⟩, ⟨.t 6, .p (.mv), [.t 5], none, 0, 0⟩, ⟨.t 7, .p (.mv), [.l 0], (some (.t 6, false)), 0, 0⟩, ⟨.t 8, .p (.bin .gtr), [.t 7, .c (.int .i64 2147483647)], (some (.t 6, false)), 0, 0⟩, ⟨.l 9, .p (.pick), [.t 6, .c (.bool true), .t 8], none, 0, 0⟩])
 (.cond (.l 9) (.seq (.reg [⟨.l 2, .p (.mv), [.c (.int .u64 0)], none, 0, 0⟩, ⟨.l 3, .p (.mv), [.c (.bool false)], none, 0, 0⟩])
 .ret)
 .skip))
 (.seq (.reg [⟨.t 10, .p (.mv), [.l 0], none, 0, 0⟩, ⟨.t 11, .p (.toInt .u64), [.t 10], none, 0, 0⟩, ⟨.t 12, .p (.bin .shl), [.t 11, .c (.int .u64 4)], none, 0, 0⟩, ⟨.t 13, .p (.bin .or), [.t 12, .c (.int .u64 7)], none, 0, 0⟩, ⟨.l 2, .p (.mv), [.t 13], none, 0, 0⟩, ⟨.l 3, .p (.mv), [.c (.bool true)], none, 0, 0⟩])
 .ret))),
 [.tmp (.l 2), .tmp (.l 3)]⟩
theorem cf277_ok : compF TP Tryz.f277 = some cf277 := by kernel_rfl
def cf278 : CF := ⟨2, (.seq (.reg [⟨.l 4, .p (.mv), [.c (.str 0 0)], none, 0, 0⟩])
 (.seq (.reg [⟨.t 10, .p (.mv), [.l 1], none, 0, 0⟩, ⟨.t 11, .call 157, [.t 10], none, 0, 0⟩, ⟨.t 9, .p (.mv), [.t 11], none, 0, 0⟩, ⟨.t 12, .p (.ext 0), [.t 9], none, 0, 0⟩, ⟨.t 13, .p (.ext 1), [.t 9], none, 0, 0⟩, ⟨.l 5, .p (.mv), [.t 12], none, 0, 0⟩, ⟨.t 6, .p (.mv), [.t 13], none, 0, 0⟩])
 (.seq (.reg [⟨.t 15, .p (.mv), [.l 0], none, 0, 0⟩, ⟨.t 16, .p (.nilc), [.t 15], none, 0, 0⟩, ⟨.t 17, .p (.fa 6), [.t 16], none, 0, 0⟩, ⟨.t 18, .r (.load false 1), [.t 17], none, 0, 0⟩, ⟨.t 19, .p (.mv), [.l 5], none, 0, 0⟩, ⟨.t 20, .call 316, [.t 18, .t 19], none, 0, 0⟩, ⟨.t 14, .p (.mv), [.t 20], none, 0, 0⟩, ⟨.t 21, .p (.ext 0), [.t 14], none, 0, 0⟩, ⟨.t 22, .p (.ext 1), [.t 14], none, 0, 0⟩, ⟨.l 7, .p (.mv), [.t 21], none, 0, 0⟩, ⟨.t 8, .p (.mv), [.t 22], none, 0, 0⟩])
 (.seq (.reg [⟨.t 23, .p (.mv), [.l 7], none, 0, 0⟩, ⟨.l 4, .p (.mv), [.t 23], none, 0, 0⟩])
 .ret)))),
 [.tmp (.l 4)]⟩
theorem cf278_ok : compF TP Tryz.f278 = some cf278 := by kernel_rfl
def cf280 : CF := ⟨2, (.seq (.reg [⟨.l 4, .p (.mv), [.c (.int .i64 0)], none, 0, 0⟩])
 (.seq (.reg [⟨.t 7, .p (.mv), [.l 0], none, 0, 0⟩, ⟨.t 8, .call 317, [.t 7], none, 0, 0⟩, ⟨.l 5, .p (.mv), [.t 8], none, 0, 0⟩])
 (.seq (.reg [⟨.t 9, .p (.mv), [.l 1], none, 0, 0⟩, ⟨.t 10, .call 317, [.t 9], none, 0, 0⟩, ⟨.l 6, .p (.mv), [.t 10], none, 0, 0⟩])
 (.seq (.seq (.reg [⟨.l 11, .p (.mv), [.l 5], none, 0, 0⟩])
 (.cond (.l 11) (.seq (.seq (.reg [⟨.l 12, .p (.mv), [.l 6], none, 0, 0⟩])
 (.cond (.l 12) (.seq (.reg [⟨.l 4, .p (.mv), [.c (.int .i64 0)], none, 0, 0⟩])
 .ret)
 .skip))
 (.seq (.reg [⟨.l 4, .p (.mv), [.c (.int .i64 (-1))], none, 0, 0⟩])
 .ret))
 .skip))
 (.seq (.seq (.reg [⟨.l 13, .p (.mv), [.l 6], none, 0, 0⟩])
 (.cond (.l 13) (.seq (.reg [⟨.l 4, .p (.mv), [.c (.int .i64 1)], none, 0, 0⟩])
 .ret)
 .skip))
 (.seq (.seq (.reg [⟨.t 14, .p (.mv), [.l 0], none, 0, 0⟩, ⟨.t 15, .p (.mv), [.l 1], none, 0, 0⟩, ⟨.l 16, .p (.bin .lss), [.t 14, .t 15], none, 0, 0⟩])
 (.cond (.l 16) (.seq (.reg [⟨.l 4, .p (.mv), [.c (.int .i64 (-1))], none, 0, 0⟩])
 .ret)
 .skip))
 (.seq (.seq (.reg [⟨.t 17, .p (.mv), [.l 0], none, 0, 0⟩, ⟨.t 18, .p (.mv), [.l 1], none, 0, 0⟩, ⟨.l 19, .p (.bin .gtr), [.t 17, .t 18], none, 0, 0⟩])
 (.cond (.l 19) (.seq (.reg [⟨.l 4, .p (.mv), [.c (.int .i64 1)], none, 0, 0⟩])
 .ret)
 .skip))
 (.seq (.reg [⟨.l 4, .p (.mv), [.c (.int .i64 0)], none, 0, 0⟩])
 .ret)))))))),
 [.tmp (.l 4)]⟩
theorem cf280_ok : compF TP Tryz.f280 = some cf280 := by kernel_rfl
def cf281 : CF := ⟨2, (.seq (.reg [⟨.l 4, .p (.mv), [.c (.int .i64 0)], none, 0, 0⟩])
 (.seq (.seq (.reg [⟨.t 6, .p (.mv), [.l 0], none, 0, 0⟩, ⟨.t 7, .p (.leng .sl), [.t 6], none, 0, 0⟩, ⟨.t 8, .p (.mv), [.l 1], none, 0, 0⟩, ⟨.t 9, .p (.leng .sl), [.t 8], none, 0, 0⟩, ⟨.t 10, .call 280, [.t 7, .t 9], none, 0, 0⟩, ⟨.l 5, .p (.mv), [.t 10], none, 0, 0⟩])
 (.seq (.reg [⟨.t 11, .p (.mv), [.l 5], none, 0, 0⟩, ⟨.l 12, .p (.bin .neq), [.t 11, .c (.int .i64 0)], none, 0, 0⟩])
 (.cond (.l 12) (.seq (.reg [⟨.t 13, .p (.mv), [.l 5], none, 0, 0⟩, ⟨.l 4, .p (.mv), [.t 13], none, 0, 0⟩])
 .ret)
 .skip)))
 (.seq (.reg [⟨.t 14, .p (.mv), [.l 0], none, 0, 0⟩, ⟨.t 15, .p (.mv), [.l 1], none, 0, 0⟩, ⟨.t 16, .call 318, [.t 14, .t 15, .c (.func (.func 208) [] [])], none, 0, 0⟩, ⟨.l 4, .p (.mv), [.t 16], none, 0, 0⟩])
 .ret))),
 [.tmp (.l 4)]⟩
theorem cf281_ok : compF TP Tryz.f281 = some cf281 := by kernel_rfl
def cf284 : CF := ⟨1, (.seq (.reg [⟨.l 2, .p (.mv), [.c (.int .i64 0)], none, 0, 0⟩])
 (.seq (.reg [⟨.l 3, .p (.mv), [.c (.int .i64 0)], none, 0, 0⟩])
 (.seq (.seq (.reg [⟨.l 6, .p (.mv), [.l 0], none, 0, 0⟩, ⟨.l 7, .p (.leng .sl), [.l 6], none, 0, 0⟩, ⟨.l 8, .p (.mv), [.c (.int .i64 0)], none, 0, 0⟩])
 (.block 0 (.loop (.seq (.reg [⟨.l 9, .p (.bin .lss), [.l 8, .l 7], none, 0, 0⟩])
 (.seq (.cond (.l 9) .skip
 (.exit 0))
 (.seq (.block 1 (.seq (.reg [⟨.t 10, .p (.ixsl 1), [.l 6, .l 8], none, 0, 0⟩, ⟨.t 11, .r (.load false 1), [.t 10], none, 0, 0⟩, ⟨.l 5, .p (.mv), [.t 11], none, 0, 0⟩])
 (.seq (.reg [⟨.t 12, .p (.mv), [.l 5], none, 0, 0⟩, ⟨.t 13, .p (.mv), [.l 3], none, 0, 0⟩, ⟨.l 14, .p (.bin .neq), [.t 12, .t 13], none, 0, 0⟩])
 (.cond (.l 14) (.seq (.reg [⟨.t 15, .p (.mv), [.l 5], none, 0, 0⟩, ⟨.l 2, .p (.mv), [.t 15], none, 0, 0⟩])
 .ret)
 .skip))))
 (.reg [⟨.t 16, .p (.bin .add), [.l 8, .c (.int .i64 1)], none, 0, 0⟩, ⟨.l 8, .p (.mv), [.t 16], none, 0, 0⟩])))))))
 (.seq (.reg [⟨.t 17, .p (.mv), [.l 3], none, 0, 0⟩, ⟨.l 2, .p (.mv), [.t 17], none, 0, 0⟩])
 .ret)))),
 [.tmp (.l 2)]⟩
theorem cf284_ok : compF TP Tryz.f284 = some cf284 := by kernel_rfl
def cf286 : CF := ⟨2, (.seq (.reg [⟨.l 4, .p (.mv), [.c (.int .i64 0)], none, 0, 0⟩])
 (.seq (.reg [⟨.t 7, .p (.mv), [.l 0], none, 0, 0⟩, ⟨.t 8, .call 321, [.t 7], none, 0, 0⟩, ⟨.l 5, .p (.mv), [.t 8], none, 0, 0⟩])
 (.seq (.reg [⟨.t 9, .p (.mv), [.l 1], none, 0, 0⟩, ⟨.t 10, .call 321, [.t 9], none, 0, 0⟩, ⟨.l 6, .p (.mv), [.t 10], none, 0, 0⟩])
 (.seq (.seq (.reg [⟨.l 11, .p (.mv), [.l 5], none, 0, 0⟩])
 (.cond (.l 11) (.seq (.seq (.reg [⟨.l 12, .p (.mv), [.l 6], none, 0, 0⟩])
 (.cond (.l 12) (.seq (.reg [⟨.l 4, .p (.mv), [.c (.int .i64 0)], none, 0, 0⟩])
 .ret)
 .skip))
 (.seq (.reg [⟨.l 4, .p (.mv), [.c (.int .i64 (-1))], none, 0, 0⟩])
 .ret))
 .skip))
 (.seq (.seq (.reg [⟨.l 13, .p (.mv), [.l 6], none, 0, 0⟩])
 (.cond (.l 13) (.seq (.reg [⟨.l 4, .p (.mv), [.c (.int .i64 1)], none, 0, 0⟩])
 .ret)
 .skip))
 (.seq (.seq (.reg [⟨.t 14, .p (.mv), [.l 0], none, 0, 0⟩, ⟨.t 15, .p (.mv), [.l 1], none, 0, 0⟩, ⟨.l 16, .p (.bin .lss), [.t 14, .t 15], none, 0, 0⟩])
 (.cond (.l 16) (.seq (.reg [⟨.l 4, .p (.mv), [.c (.int .i64 (-1))], none, 0, 0⟩])
 .ret)
 .skip))
 (.seq (.seq (.reg [⟨.t 17, .p (.mv), [.l 0], none, 0, 0⟩, ⟨.t 18, .p (.mv), [.l 1], none, 0, 0⟩, ⟨.l 19, .p (.bin .gtr), [.t 17, .t 18], none, 0, 0⟩])
 (.cond (.l 19) (.seq (.reg [⟨.l 4, .p (.mv), [.c (.int .i64 1)], none, 0, 0⟩])
 .ret)
 .skip))
 (.seq (.reg [⟨.l 4, .p (.mv), [.c (.int .i64 0)], none, 0, 0⟩])
 .ret)))))))),
 [.tmp (.l 4)]⟩
theorem cf286_ok : compF TP Tryz.f286 = some cf286 := by kernel_rfl
def cf288 : CF := ⟨0, (.seq (.reg [⟨.l 0, .p (.mv), [.c .nilm], none, 0, 0⟩])
 (.seq (.reg [⟨.t 1, .a (.mkm false), [], none, 0, 0⟩, ⟨.t 2, .call 322, [.c (.func (.func 323) [] [])], none, 0, 0⟩, ⟨.no, .e (.mapup (.one .s)), [.t 1, .c (.str 1 43), .t 2], none, 0, 0⟩, ⟨.t 3, .call 322, [.c (.func (.func 324) [] [])], none, 0, 0⟩, ⟨.no, .e (.mapup (.one .s)), [.t 1, .c (.str 1 45), .t 3], none, 0, 0⟩, ⟨.t 4, .call 322, [.c (.func (.func 325) [] [])], none, 0, 0⟩, ⟨.no, .e (.mapup (.one .s)), [.t 1, .c (.str 1 42), .t 4], none, 0, 0⟩, ⟨.t 5, .call 322, [.c (.func (.func 326) [] [])], none, 0, 0⟩, ⟨.no, .e (.mapup (.one .s)), [.t 1, .c (.str 3 7760228), .t 5], none, 0, 0⟩, ⟨.t 6, .call 322, [.c (.func (.func 327) [] [])], none, 0, 0⟩, ⟨.no, .e (.mapup (.one .s)), [.t 1, .c (.str 3 7169394), .t 6], none, 0, 0⟩, ⟨.t 7, .call 322, [.c (.func (.func 328) [] [])], none, 0, 0⟩, ⟨.no, .e (.mapup (.one .s)), [.t 1, .c (.str 3 7107426), .t 7], none, 0, 0⟩, ⟨.t 8, .call 322, [.c (.func (.func 329) [] [])], none, 0, 0⟩, ⟨.no, .e (.mapup (.one .s)), [.t 1, .c (.str 3 7500642), .t 8], none, 0, 0⟩, ⟨.t 9, .call 322, [.c (.func (.func 330) [] [])], none, 0, 0⟩, ⟨.no, .e (.mapup (.one .s)), [.t 1, .c (.str 4 1684955490), .t 9], none, 0, 0⟩, ⟨.t 10, .call 322, [.c (.func (.func 331) [] [])], none, 0, 0⟩, ⟨.no, .e (.mapup (.one .s)), [.t 1, .c (.str 3 7499618), .t 10], none, 0, 0⟩, ⟨.t 11, .call 322, [.c (.func (.func 332) [] [])], none, 0, 0⟩, ⟨.no, .e (.mapup (.one .s)), [.t 1, .c (.str 4 1919907938), .t 11], none, 0, 0⟩, ⟨.t 12, .call 322, [.c (.func (.func 333) [] [])], none, 0, 0⟩, ⟨.no, .e (.mapup (.one .s)), [.t 1, .c (.str 6 54079886683746), .t 12], none, 0, 0⟩, ⟨.t 13, .call 322, [.c (.func (.func 334) [] [])], none, 0, 0⟩, ⟨.no, .e (.mapup (.one .s)), [.t 1, .c (.str 3 3223341), .t 13], none, 0, 0⟩, ⟨.t 14, .call 336, [.c (.func (.func 337) [] [])], none, 0, 0⟩, ⟨.no, .e (.mapup (.one .s)), [.t 1, .c (.str 3 6581857), .t 14], none, 0, 0⟩, ⟨.t 15, .call 336, [.c (.func (.func 338) [] [])], none, 0, 0⟩, ⟨.no, .e (.mapup (.one .s)), [.t 1, .c (.str 2 29295), .t 15], none, 0, 0⟩, ⟨.t 16, .call 336, [.c (.func (.func 339) [] [])], none, 0, 0⟩, ⟨.no, .e (.mapup (.one .s)), [.t 1, .c (.str 3 7499640), .t 16], none, 0, 0⟩, ⟨.t 17, .call 336, [.c (.func (.func 340) [] [])], none, 0, 0⟩, ⟨.no, .e (.mapup (.one .s)), [.t 1, .c (.str 5 211249557358), .t 17], none, 0, 0⟩, ⟨.t 18, .call 341, [.c (.func (.func 342) [] [])], none, 0, 0⟩, ⟨.no, .e (.mapup (.one .s)), [.t 1, .c (.str 3 4012605), .t 18], none, 0, 0⟩, ⟨.t 19, .call 341, [.c (.func (.func 343) [] [])], none, 0, 0⟩, ⟨.no, .e (.mapup (.one .s)), [.t 1, .c (.str 3 4009789), .t 19], none, 0, 0⟩, ⟨.t 20, .call 341, [.c (.func (.func 344) [] [])], none, 0, 0⟩, ⟨.no, .e (.mapup (.one .s)), [.t 1, .c (.str 1 60), .t 20], none, 0, 0⟩, ⟨.t 21, .call 341, [.c (.func (.func 345) [] [])], none, 0, 0⟩, ⟨.no, .e (.mapup (.one .s)), [.t 1, .c (.str 2 15421), .t 21], none, 0, 0⟩, ⟨.t 22, .call 341, [.c (.func (.func 346) [] [])], none, 0, 0⟩, ⟨.no, .e (.mapup (.one .s)), [.t 1, .c (.str 1 62), .t 22], none, 0, 0⟩, ⟨.t 23, .call 341, [.c (.func (.func 347) [] [])], none, 0, 0⟩, ⟨.no, .e (.mapup (.one .s)), [.t 1, .c (.str 2 15678), .t 23], none, 0, 0⟩, ⟨.no, .e (.mapup (.one .s)), [.t 1, .c (.str 2 11051), .c (.func (.func 348) [] [])], none, 0, 0⟩, ⟨.t 24, .p (.mv), [.t 1], none, 0, 0⟩, ⟨.l 0, .p (.mv), [.t 24], none, 0, 0⟩])
 .ret)),
 [.tmp (.l 0)]⟩
theorem cf288_ok : compF TP Tryz.f288 = some cf288 := by kernel_rfl
def cf298 : CF := ⟨1, (.seq (.reg [⟨.l 2, .a (.alloc [(.str 0 0), (.int .i64 0), (.int .i64 0), (.int .i64 0), (.str 0 0), (.str 0 0), (.int .i64 0), .nils, (.str 0 0), (.int .i64 0)]), [], none, 0, 0⟩])
 (.seq (.reg [⟨.t 3, .p (.mv), [.l 0], none, 0, 0⟩, ⟨.t 4, .p (.build [(.int .i64 0), (.int .i64 0), (.int .i64 0), (.str 0 0), (.str 0 0), (.int .i64 0), .nils, (.str 0 0), (.int .i64 0)] [(0, 1), (3, 1)]), [.c (.int .i64 2), .t 3], none, 0, 0⟩, ⟨.t 5, .p (.build [(.str 0 0), (.int .i64 0), (.int .i64 0), (.int .i64 0), (.str 0 0), (.str 0 0), (.int .i64 0), .nils, (.str 0 0), (.int .i64 0)] [(0, 1), (1, 9)]), [.c (.str 5 491496043109), .t 4], none, 0, 0⟩, ⟨.no, .e (.store 10), [.l 2, .t 5], none, 0, 0⟩])
 .ret)),
 [.cell (.l 2) true 10]⟩
theorem cf298_ok : compF TP Tryz.f298 = some cf298 := by kernel_rfl
def cf299 : CF := ⟨1, (.seq (.reg [⟨.l 2, .p (.mv), [.c (.bool false)], none, 0, 0⟩])
 (.seq (.reg [⟨.t 6, .p (.mv), [.l 0], none, 0, 0⟩, ⟨.t 7, .call 33, [], none, 0, 0⟩, ⟨.t 8, .p (.bin .eql), [.t 6, .t 7], none, 0, 0⟩, ⟨.l 3, .p (.mv), [.t 8], none, 0, 0⟩])
 (.seq (.reg [⟨.t 10, .p (.mv), [.l 0], none, 0, 0⟩, ⟨.t 11, .call 156, [.t 10], none, 0, 0⟩, ⟨.t 9, .p (.mv), [.t 11], none, 0, 0⟩, ⟨.t 12, .p (.ext 0), [.t 9], none, 0, 0⟩, ⟨.t 13, .p (.ext 1), [.t 9], none, 0, 0⟩, ⟨.t 4, .p (.mv), [.t 12], none, 0, 0⟩, ⟨.l 5, .p (.mv), [.t 13], none, 0, 0⟩])
 (.seq (.reg [⟨.t 14, .p (.mv), [.l 3], none, 0, 0⟩, ⟨.t 15, .p (.mv), [.t 14], none, 0, 0⟩, ⟨.t 16, .p (.mv), [.l 5], (some (.t 15, false)), 0, 0⟩, ⟨.t 17, .p (.pick), [.t 15, .c (.bool true), .t 16], none, 0, 0⟩, ⟨.l 3, .p (.mv), [.t 17], none, 0, 0⟩])
 (.seq (.reg [⟨.t 19, .p (.mv), [.l 0], none, 0, 0⟩, ⟨.t 20, .call 157, [.t 19], none, 0, 0⟩, ⟨.t 18, .p (.mv), [.t 20], none, 0, 0⟩, ⟨.t 21, .p (.ext 0), [.t 18], none, 0, 0⟩, ⟨.t 22, .p (.ext 1), [.t 18], none, 0, 0⟩, ⟨.l 5, .p (.mv), [.t 22], none, 0, 0⟩])
 (.seq (.reg [⟨.t 23, .p (.mv), [.l 3], none, 0, 0⟩, ⟨.t 24, .p (.mv), [.t 23], none, 0, 0⟩, ⟨.t 25, .p (.mv), [.l 5], (some (.t 24, false)), 0, 0⟩, ⟨.t 26, .p (.pick), [.t 24, .c (.bool true), .t 25], none, 0, 0⟩, ⟨.l 3, .p (.mv), [.t 26], none, 0, 0⟩])
 (.seq (.reg [⟨.t 28, .p (.mv), [.l 0], none, 0, 0⟩, ⟨.t 29, .call 158, [.t 28], none, 0, 0⟩, ⟨.t 27, .p (.mv), [.t 29], none, 0, 0⟩, ⟨.t 30, .p (.ext 0), [.t 27], none, 0, 0⟩, ⟨.t 31, .p (.ext 1), [.t 27], none, 0, 0⟩, ⟨.t 32, .p (.ext 2), [.t 27], none, 0, 0⟩, ⟨.l 5, .p (.mv), [.t 32], none, 0, 0⟩])
 (.seq (.reg [⟨.t 33, .p (.mv), [.l 3], none, 0, 0⟩, ⟨.t 34, .p (.mv), [.t 33], none, 0, 0⟩, ⟨.t 35, .p (.mv), [.l 5], (some (.t 34, false)), 0, 0⟩, ⟨.t 36, .p (.pick), [.t 34, .c (.bool true), .t 35], none, 0, 0⟩, ⟨.l 3, .p (.mv), [.t 36], none, 0, 0⟩])
 (.seq (.reg [⟨.t 38, .p (.mv), [.l 0], none, 0, 0⟩, ⟨.t 39, .call 233, [.t 38], none, 0, 0⟩, ⟨.t 37, .p (.mv), [.t 39], none, 0, 0⟩, ⟨.t 40, .p (.ext 0), [.t 37], none, 0, 0⟩, ⟨.t 41, .p (.ext 1), [.t 37], none, 0, 0⟩, ⟨.t 42, .p (.ext 2), [.t 37], none, 0, 0⟩, ⟨.l 5, .p (.mv), [.t 42], none, 0, 0⟩])
 (.seq (.reg [⟨.t 43, .p (.mv), [.l 3], none, 0, 0⟩, ⟨.t 44, .p (.mv), [.t 43], none, 0, 0⟩, ⟨.t 45, .p (.mv), [.l 5], (some (.t 44, false)), 0, 0⟩, ⟨.t 46, .p (.pick), [.t 44, .c (.bool true), .t 45], none, 0, 0⟩, ⟨.l 2, .p (.mv), [.t 46], none, 0, 0⟩])
 .ret)))))))))),
 [.tmp (.l 2)]⟩
theorem cf299_ok : compF TP Tryz.f299 = some cf299 := by kernel_rfl
def cf300 : CF := ⟨2, (.seq (.reg [⟨.l 3, .p (.mv), [.c (.bool false)], none, 0, 0⟩])
 (.seq (.reg [⟨.t 4, .r (.load false 1), [.l 1], none, 0, 0⟩, ⟨.t 5, .p (.nilc), [.t 4], none, 0, 0⟩, ⟨.t 6, .p (.fa 0), [.t 5], none, 0, 0⟩, ⟨.t 7, .r (.load false 1), [.t 6], none, 0, 0⟩, ⟨.t 8, .p (.mv), [.l 0], none, 0, 0⟩, ⟨.t 9, .call 104, [.t 7, .t 8], none, 0, 0⟩, ⟨.t 10, .p (.bin .eql), [.t 9, .c (.int .i64 0)], none, 0, 0⟩, ⟨.l 3, .p (.mv), [.t 10], none, 0, 0⟩])
 .ret)),
 [.tmp (.l 3)]⟩
theorem cf300_ok : compF TP Tryz.f300 = some cf300 := by kernel_rfl
def cf301 : CF := ⟨3, (.seq (.reg [⟨.l 4, .a (.box), [.l 1], none, 0, 0⟩, ⟨.l 6, .a (.alloc [.nils, .nils, (.int .i64 0)]), [], none, 0, 0⟩, ⟨.l 7, .p (.mv), [.c .nils], none, 0, 0⟩, ⟨.l 8, .p (.mv), [.c (.int .i64 0)], none, 0, 0⟩])
 (.seq (.reg [⟨.t 9, .p (.mv), [.l 0], none, 0, 0⟩, ⟨.t 10, .p (.nilc), [.t 9], none, 0, 0⟩, ⟨.t 11, .p (.fa 4), [.t 10], none, 0, 0⟩, ⟨.t 12, .r (.load false 1), [.t 11], none, 0, 0⟩, ⟨.t 13, .p (.bin .add), [.t 12, .c (.int .i64 1)], none, 0, 0⟩, ⟨.t 14, .p (.nilc), [.t 9], none, 0, 0⟩, ⟨.t 15, .p (.fa 4), [.t 14], none, 0, 0⟩, ⟨.no, .e (.store 1), [.t 15, .t 13], none, 0, 0⟩])
 (.seq (.reg [⟨.t 16, .p (.mv), [.l 0], none, 0, 0⟩, ⟨.t 17, .p (.nilc), [.t 16], none, 0, 0⟩, ⟨.t 18, .p (.fa 6), [.t 17], none, 0, 0⟩, ⟨.t 19, .r (.load false 1), [.t 18], none, 0, 0⟩, ⟨.t 20, .p (.bin .add), [.t 19, .c (.int .i64 1)], none, 0, 0⟩, ⟨.t 21, .p (.nilc), [.t 16], none, 0, 0⟩, ⟨.t 22, .p (.fa 6), [.t 21], none, 0, 0⟩, ⟨.no, .e (.store 1), [.t 22, .t 20], none, 0, 0⟩])
 (.seq (.reg [⟨.t 23, .r (.load true 3), [.l 4], none, 0, 0⟩, ⟨.t 24, .p (.mv), [.l 2], none, 0, 0⟩, ⟨.t 25, .call 379, [.t 23, .t 24], none, 0, 0⟩, ⟨.t 26, .p (.ext 0), [.t 25], none, 0, 0⟩, ⟨.t 27, .p (.ext 1), [.t 25], none, 0, 0⟩, ⟨.t 28, .p (.ext 2), [.t 25], none, 0, 0⟩, ⟨.no, .e (.store 3), [.l 6, .t 26], none, 0, 0⟩, ⟨.l 7, .p (.mv), [.t 27], none, 0, 0⟩, ⟨.l 8, .p (.mv), [.t 28], none, 0, 0⟩])
 .ret)))),
 [.cell (.l 6) true 3, .tmp (.l 7), .tmp (.l 8)]⟩
theorem cf301_ok : compF TP Tryz.f301 = some cf301 := by kernel_rfl
def cf302 : CF := ⟨3, (.seq (.reg [⟨.l 4, .a (.box), [.l 1], none, 0, 0⟩, ⟨.l 6, .a (.alloc [.nils, .nils, (.int .i64 0)]), [], none, 0, 0⟩, ⟨.l 7, .p (.mv), [.c .nils], none, 0, 0⟩, ⟨.l 8, .p (.mv), [.c (.int .i64 0)], none, 0, 0⟩])
 (.seq (.reg [⟨.t 9, .p (.mv), [.l 0], none, 0, 0⟩, ⟨.t 10, .p (.nilc), [.t 9], none, 0, 0⟩, ⟨.t 11, .p (.fa 5), [.t 10], none, 0, 0⟩, ⟨.t 12, .r (.load false 1), [.t 11], none, 0, 0⟩, ⟨.t 13, .p (.bin .add), [.t 12, .c (.int .i64 1)], none, 0, 0⟩, ⟨.t 14, .p (.nilc), [.t 9], none, 0, 0⟩, ⟨.t 15, .p (.fa 5), [.t 14], none, 0, 0⟩, ⟨.no, .e (.store 1), [.t 15, .t 13], none, 0, 0⟩])
 (.seq (.reg [⟨.t 16, .p (.mv), [.l 0], none, 0, 0⟩, ⟨.t 17, .p (.nilc), [.t 16], none, 0, 0⟩, ⟨.t 18, .p (.fa 6), [.t 17], none, 0, 0⟩, ⟨.no, .e (.store 1), [.t 18, .c (.int .i64 0)], none, 0, 0⟩])
 (.seq (.reg [⟨.t 19, .r (.load true 3), [.l 4], none, 0, 0⟩, ⟨.t 20, .p (.mv), [.l 2], none, 0, 0⟩, ⟨.t 21, .call 380, [.t 19, .t 20], none, 0, 0⟩, ⟨.t 22, .p (.ext 0), [.t 21], none, 0, 0⟩, ⟨.t 23, .p (.ext 1), [.t 21], none, 0, 0⟩, ⟨.t 24, .p (.ext 2), [.t 21], none, 0, 0⟩, ⟨.no, .e (.store 3), [.l 6, .t 22], none, 0, 0⟩, ⟨.l 7, .p (.mv), [.t 23], none, 0, 0⟩, ⟨.l 8, .p (.mv), [.t 24], none, 0, 0⟩])
 .ret)))),
 [.cell (.l 6) true 3, .tmp (.l 7), .tmp (.l 8)]⟩
theorem cf302_ok : compF TP Tryz.f302 = some cf302 := by kernel_rfl
def cf303 : CF := ⟨1, (.seq (.reg [⟨.l 2, .a (.alloc [.nils, .nils, (.int .i64 0)]), [], none, 0, 0⟩])
 (.seq (.seq (.reg [⟨.t 3, .p (.mv), [.l 0], none, 0, 0⟩, ⟨.t 4, .call 166, [.t 3], none, 0, 0⟩, ⟨.l 5, .p (.un .not), [.t 4], none, 0, 0⟩])
 (.cond (.l 5) (.seq (.reg [⟨.t 6, .p (.build [.nils, .nils, (.int .i64 0)] []), [], none, 0, 0⟩, ⟨.no, .e (.store 3), [.l 2, .t 6], none, 0, 0⟩])
 .ret)
 .skip))
 (.seq (.regD [⟨.t 7, .p (.mv), [.l 0], none, 0, 0⟩, ⟨.t 8, .p (.nilc), [.t 7], none, 0, 0⟩, ⟨.t 9, .p (.fa 0), [.t 8], none, 0, 0⟩, ⟨.t 10, .p (.fa 0), [.t 9], none, 0, 0⟩, ⟨.t 11, .p (.fa 0), [.t 10], none, 0, 0⟩, ⟨.t 12, .r (.load false 1), [.t 11], none, 0, 0⟩, ⟨.t 14, .p (.mv), [.l 0], none, 0, 1⟩, ⟨.t 15, .p (.nilc), [.t 14], none, 0, 1⟩, ⟨.t 16, .p (.fa 0), [.t 15], none, 0, 1⟩, ⟨.t 17, .p (.fa 2), [.t 16], none, 0, 1⟩, ⟨.t 18, .p (.fa 0), [.t 17], none, 0, 1⟩, ⟨.t 19, .r (.load false 1), [.t 18], none, 0, 1⟩, ⟨.t 21, .p (.mv), [.l 0], none, 0, 2⟩, ⟨.t 22, .p (.nilc), [.t 21], none, 0, 2⟩, ⟨.t 23, .p (.fa 4), [.t 22], none, 0, 2⟩, ⟨.t 24, .r (.load false 1), [.t 23], none, 0, 2⟩, ⟨.t 13, .call 212, [.t 12], none, 0, 1⟩, ⟨.t 20, .call 212, [.t 19], none, 1, 2⟩, ⟨.t 25, .p (.build [.nils, .nils, (.int .i64 0)] [(0, 1), (1, 1), (2, 1)]), [.t 13, .t 20, .t 24], none, 2, 2⟩, ⟨.no, .e (.store 3), [.l 2, .t 25], none, 2, 3⟩])
 .ret))),
 [.cell (.l 2) true 3]⟩
theorem cf303_ok : compF TP Tryz.f303 = some cf303 := by kernel_rfl
end
end Ev
end Go.Proofs.YtgeccgjpiaiifaaGreatDoor
