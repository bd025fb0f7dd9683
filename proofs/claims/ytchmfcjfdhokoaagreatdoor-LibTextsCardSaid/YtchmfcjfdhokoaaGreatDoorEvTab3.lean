/-
  The functions of the program, compiled (printed by a program of ours; each is held against the program's own text below).

  Two more functions of the program, compiled.
-/
import Derived.Test.YtchmfcjfdhokoaaGreatDoorEvTab1
import Derived.Test.YtchmfcjfdhokoaaGreatDoorProg
import Derived.KernelRfl
namespace Go.Proofs.YtchmfcjfdhokoaaGreatDoor
namespace Ev
noncomputable section
def cf228 : CF := ⟨3, (.seq (.reg [⟨.l 3, .a (.box), [.l 0], none, 0, 0⟩, ⟨.l 4, .a (.box), [.l 1], none, 0, 0⟩, ⟨.l 5, .a (.box), [.l 2], none, 0, 0⟩])
 (.seq (.reg [⟨.t 10, .p (.fa 0), [.l 4], none, 0, 0⟩, ⟨.l 11, .r (.load false 1), [.t 10], none, 0, 0⟩])
 (.block 0 (.seq (.reg [⟨.t 16, .p (.bin .eql), [.l 11, .c (.int .i64 3)], none, 0, 0⟩, ⟨.l 15, .p (.mv), [.t 16], none, 0, 0⟩])
 (.cond (.l 15) (.reg [⟨.t 17, .r (.load false 1), [.l 3], none, 0, 0⟩, ⟨.t 18, .p (.fa 2), [.l 4], none, 0, 0⟩, ⟨.t 19, .r (.load false 1), [.t 18], none, 0, 0⟩, ⟨.t 20, .r (.load false 1), [.l 5], none, 0, 0⟩, ⟨.t 21, .call 226, [.t 17, .t 19, .t 20], none, 0, 0⟩])
 (.seq (.reg [⟨.t 23, .p (.bin .eql), [.l 11, .c (.int .i64 13)], none, 0, 0⟩, ⟨.l 22, .p (.mv), [.t 23], none, 0, 0⟩])
 (.cond (.l 22) (.reg [⟨.t 24, .r (.load false 1), [.l 3], none, 0, 0⟩, ⟨.t 25, .p (.fa 6), [.l 4], none, 0, 0⟩, ⟨.t 26, .r (.load false 1), [.t 25], none, 0, 0⟩, ⟨.t 27, .r (.load false 1), [.l 5], none, 0, 0⟩, ⟨.t 28, .call 203, [.t 24, .t 26, .t 27], none, 0, 0⟩])
 (.seq (.seq (.reg [⟨.t 30, .p (.bin .eql), [.l 11, .c (.int .i64 15)], none, 0, 0⟩, ⟨.l 29, .p (.mv), [.t 30], none, 0, 0⟩])
 (.cond (.l 29) .skip
 (.seq (.reg [⟨.t 31, .p (.bin .eql), [.l 11, .c (.int .i64 16)], none, 0, 0⟩, ⟨.l 29, .p (.mv), [.t 31], none, 0, 0⟩])
 (.cond (.l 29) .skip
 (.reg [⟨.t 32, .p (.bin .eql), [.l 11, .c (.int .i64 18)], none, 0, 0⟩, ⟨.l 29, .p (.mv), [.t 32], none, 0, 0⟩])))))
 (.cond (.l 29) (.seq (.seq (.reg [⟨.t 33, .p (.fa 4), [.l 4], none, 0, 0⟩, ⟨.l 34, .r (.load false 1), [.t 33], none, 0, 0⟩, ⟨.l 35, .p (.leng .sl), [.l 34], none, 0, 0⟩, ⟨.l 36, .p (.mv), [.c (.int .i64 0)], none, 0, 0⟩])
 (.block 1 (.loop (.seq (.reg [⟨.l 37, .p (.bin .lss), [.l 36, .l 35], none, 0, 0⟩])
 (.seq (.cond (.l 37) .skip
 (.exit 1))
 (.seq (.block 2 (.seq (.reg [⟨.t 38, .p (.ixsl 11), [.l 34, .l 36], none, 0, 0⟩, ⟨.t 39, .r (.load true 11), [.t 38], none, 0, 0⟩, ⟨.l 7, .a (.alloc [(.int .i64 0), (.int .i64 0), (.str 0 0), (.str 0 0), .nils, .nils, .nils, .nils, .nils, .nils, (.bool false)]), [], none, 0, 0⟩, ⟨.no, .e (.store 11), [.l 7, .t 39], none, 0, 0⟩])
 (.reg [⟨.t 40, .r (.load false 1), [.l 3], none, 0, 0⟩, ⟨.t 41, .r (.load true 11), [.l 7], none, 0, 0⟩, ⟨.t 42, .r (.load false 1), [.l 5], none, 0, 0⟩, ⟨.t 43, .call 228, [.t 40, .t 41, .t 42], none, 0, 0⟩])))
 (.reg [⟨.t 44, .p (.bin .add), [.l 36, .c (.int .i64 1)], none, 0, 0⟩, ⟨.l 36, .p (.mv), [.t 44], none, 0, 0⟩])))))))
 (.seq (.reg [⟨.t 45, .r (.load false 1), [.l 3], none, 0, 0⟩, ⟨.t 46, .p (.fa 8), [.l 4], none, 0, 0⟩, ⟨.t 47, .r (.load false 1), [.t 46], none, 0, 0⟩, ⟨.t 48, .r (.load false 1), [.l 5], none, 0, 0⟩, ⟨.t 49, .call 229, [.t 45, .t 47, .t 48], none, 0, 0⟩])
 (.seq (.reg [⟨.t 50, .r (.load false 1), [.l 3], none, 0, 0⟩, ⟨.t 51, .p (.fa 6), [.l 4], none, 0, 0⟩, ⟨.t 52, .r (.load false 1), [.t 51], none, 0, 0⟩, ⟨.t 53, .r (.load false 1), [.l 5], none, 0, 0⟩, ⟨.t 54, .call 245, [.t 50, .t 52, .t 53], none, 0, 0⟩])
 (.seq (.reg [⟨.t 55, .r (.load false 1), [.l 3], none, 0, 0⟩, ⟨.t 56, .p (.fa 7), [.l 4], none, 0, 0⟩, ⟨.t 57, .r (.load false 1), [.t 56], none, 0, 0⟩, ⟨.t 58, .r (.load false 1), [.l 5], none, 0, 0⟩, ⟨.t 59, .call 245, [.t 55, .t 57, .t 58], none, 0, 0⟩])
 (.reg [⟨.t 60, .r (.load false 1), [.l 3], none, 0, 0⟩, ⟨.t 61, .p (.fa 9), [.l 4], none, 0, 0⟩, ⟨.t 62, .r (.load false 1), [.t 61], none, 0, 0⟩, ⟨.t 63, .r (.load false 1), [.l 5], none, 0, 0⟩, ⟨.t 64, .call 229, [.t 60, .t 62, .t 63], none, 0, 0⟩])))))
 (.seq (.reg [⟨.t 66, .p (.bin .eql), [.l 11, .c (.int .i64 17)], none, 0, 0⟩, ⟨.l 65, .p (.mv), [.t 66], none, 0, 0⟩])
 (.cond (.l 65) (.seq (.reg [⟨.t 67, .r (.load false 1), [.l 3], none, 0, 0⟩, ⟨.t 68, .p (.fa 6), [.l 4], none, 0, 0⟩, ⟨.t 69, .r (.load false 1), [.t 68], none, 0, 0⟩, ⟨.t 70, .r (.load false 1), [.l 5], none, 0, 0⟩, ⟨.t 71, .call 245, [.t 67, .t 69, .t 70], none, 0, 0⟩])
 (.seq (.seq (.reg [⟨.t 72, .p (.fa 4), [.l 4], none, 0, 0⟩, ⟨.l 73, .r (.load false 1), [.t 72], none, 0, 0⟩, ⟨.l 74, .p (.leng .sl), [.l 73], none, 0, 0⟩, ⟨.l 75, .p (.mv), [.c (.int .i64 0)], none, 0, 0⟩])
 (.block 3 (.loop (.seq (.reg [⟨.l 76, .p (.bin .lss), [.l 75, .l 74], none, 0, 0⟩])
 (.seq (.cond (.l 76) .skip
 (.exit 3))
 (.seq (.block 4 (.seq (.reg [⟨.t 77, .p (.ixsl 11), [.l 73, .l 75], none, 0, 0⟩, ⟨.t 78, .r (.load true 11), [.t 77], none, 0, 0⟩, ⟨.l 9, .a (.alloc [(.int .i64 0), (.int .i64 0), (.str 0 0), (.str 0 0), .nils, .nils, .nils, .nils, .nils, .nils, (.bool false)]), [], none, 0, 0⟩, ⟨.no, .e (.store 11), [.l 9, .t 78], none, 0, 0⟩])
 (.reg [⟨.t 79, .r (.load false 1), [.l 3], none, 0, 0⟩, ⟨.t 80, .r (.load true 11), [.l 9], none, 0, 0⟩, ⟨.t 81, .r (.load false 1), [.l 5], none, 0, 0⟩, ⟨.t 82, .call 228, [.t 79, .t 80, .t 81], none, 0, 0⟩])))
 (.reg [⟨.t 83, .p (.bin .add), [.l 75, .c (.int .i64 1)], none, 0, 0⟩, ⟨.l 75, .p (.mv), [.t 83], none, 0, 0⟩])))))))
 (.reg [⟨.t 84, .r (.load false 1), [.l 3], none, 0, 0⟩, ⟨.t 85, .p (.fa 9), [.l 4], none, 0, 0⟩, ⟨.t 86, .r (.load false 1), [.t 85], none, 0, 0⟩, ⟨.t 87, .r (.load false 1), [.l 5], none, 0, 0⟩, ⟨.t 88, .call 229, [.t 84, .t 86, .t 87], none, 0, 0⟩])))
 (.reg [⟨.t 12, .r (.load true 11), [.l 4], none, 0, 0⟩, ⟨.t 13, .p (.mkf (.func 246) 0), [.l 3, .l 5], none, 0, 0⟩, ⟨.t 14, .call 63, [.t 12, .t 13], none, 0, 0⟩])))))))))))),
 []⟩
theorem cf228_ok : compF TP Tryz.f228 = some cf228 := by kernel_rfl
def cf229 : CF := ⟨3, (.seq (.reg [⟨.l 9, .p (.mv), [.l 1], none, 0, 0⟩, ⟨.l 10, .p (.leng .sl), [.l 9], none, 0, 0⟩, ⟨.l 11, .p (.mv), [.c (.int .i64 0)], none, 0, 0⟩])
 (.block 0 (.loop (.seq (.reg [⟨.l 12, .p (.bin .lss), [.l 11, .l 10], none, 0, 0⟩])
 (.seq (.cond (.l 12) .skip
 (.exit 0))
 (.seq (.block 1 (.seq (.reg [⟨.t 13, .p (.ixsl 23), [.l 9, .l 11], none, 0, 0⟩, ⟨.t 14, .r (.load true 23), [.t 13], none, 0, 0⟩, ⟨.l 7, .a (.alloc [(.bool false), (.int .i64 0), (.int .i64 0), (.str 0 0), (.str 0 0), .nils, .nils, .nils, .nils, .nils, .nils, (.bool false), (.int .i64 0), (.int .i64 0), (.str 0 0), (.str 0 0), .nils, .nils, .nils, .nils, .nils, .nils, (.bool false)]), [], none, 0, 0⟩, ⟨.no, .e (.store 23), [.l 7, .t 14], none, 0, 0⟩])
 (.seq (.reg [⟨.t 15, .p (.mv), [.l 2], none, 0, 0⟩, ⟨.l 8, .p (.mv), [.t 15], none, 0, 0⟩])
 (.seq (.seq (.reg [⟨.t 16, .p (.fa 0), [.l 7], none, 0, 0⟩, ⟨.l 17, .r (.load false 1), [.t 16], none, 0, 0⟩])
 (.cond (.l 17) (.reg [⟨.t 18, .p (.mv), [.l 0], none, 0, 0⟩, ⟨.t 19, .p (.fa 1), [.l 7], none, 0, 0⟩, ⟨.t 20, .r (.load true 11), [.t 19], none, 0, 0⟩, ⟨.t 21, .p (.mv), [.l 2], none, 0, 0⟩, ⟨.t 22, .call 247, [.t 18, .t 20, .t 21], none, 0, 0⟩, ⟨.l 8, .p (.mv), [.t 22], none, 0, 0⟩])
 .skip))
 (.seq (.reg [⟨.t 23, .p (.mv), [.l 0], none, 0, 0⟩, ⟨.t 24, .p (.fa 12), [.l 7], none, 0, 0⟩, ⟨.t 25, .r (.load true 11), [.t 24], none, 0, 0⟩, ⟨.t 26, .p (.mv), [.l 2], none, 0, 0⟩, ⟨.t 27, .call 228, [.t 23, .t 25, .t 26], none, 0, 0⟩])
 (.reg [⟨.t 28, .p (.mv), [.l 8], none, 0, 0⟩, ⟨.l 2, .p (.mv), [.t 28], none, 0, 0⟩]))))))
 (.reg [⟨.t 29, .p (.bin .add), [.l 11, .c (.int .i64 1)], none, 0, 0⟩, ⟨.l 11, .p (.mv), [.t 29], none, 0, 0⟩]))))))),
 []⟩
theorem cf229_ok : compF TP Tryz.f229 = some cf229 := by kernel_rfl
def cf246 : CF := ⟨3, (.seq (.reg [⟨.l 3, .a (.box), [.l 0], none, 0, 0⟩, ⟨.l 4, .p (.mv), [.c (.bool false)], none, 0, 0⟩])
 (.seq (.reg [⟨.t 5, .r (.load false 1), [.l 1], none, 0, 0⟩, ⟨.t 6, .r (.load true 11), [.l 3], none, 0, 0⟩, ⟨.t 7, .r (.load false 1), [.l 2], none, 0, 0⟩, ⟨.t 8, .call 228, [.t 5, .t 6, .t 7], none, 0, 0⟩])
 (.seq (.reg [⟨.l 4, .p (.mv), [.c (.bool true)], none, 0, 0⟩])
 .ret))),
 [.tmp (.l 4)]⟩
theorem cf246_ok : compF TP Tryz.f246 = some cf246 := by kernel_rfl
end
end Ev
end Go.Proofs.YtchmfcjfdhokoaaGreatDoor
namespace Go.Proofs.YtchmfcjfdhokoaaGreatDoor
namespace Ev
noncomputable section
def cf109 : CF := ⟨1, (.seq (.reg [⟨.l 2, .p (.mv), [.c (.str 0 0)], none, 0, 0⟩])
 (.seq (.reg [⟨.l 3, .a (.alloc [(.int .u8 0), (.int .u8 0), (.int .u8 0), (.int .u8 0), (.int .u8 0), (.int .u8 0), (.int .u8 0), (.int .u8 0), (.int .u8 0), (.int .u8 0), (.int .u8 0), (.int .u8 0), (.int .u8 0), (.int .u8 0), (.int .u8 0), (.int .u8 0), (.int .u8 0), (.int .u8 0), (.int .u8 0), (.int .u8 0)]), [], none, 0, 0⟩])
 (.seq (.reg [⟨.l 4, .p (.mv), [.c (.int .i64 20)], none, 0, 0⟩])
 (.seq (.seq (.reg [⟨.t 6, .p (.mv), [.l 0], none, 0, 0⟩, ⟨.t 7, .call 145, [.t 6], none, 0, 0⟩, ⟨.l 5, .p (.mv), [.t 7], none, 0, 0⟩])
 (.block 0 (.loop (.seq (.block 1 (.seq (.reg [⟨.t 10, .p (.mv), [.l 4], none, 0, 0⟩, ⟨.t 11, .p (.bin .sub), [.t 10, .c (.int .i64 1)], none, 0, 0⟩, ⟨.l 4, .p (.mv), [.t 11], none, 0, 0⟩])
 (.seq (.reg [⟨.t 12, .p (.mv), [.l 4], none, 0, 0⟩, ⟨.t 13, .p (.mv), [.l 5], none, 0, 0⟩, ⟨.t 14, .p (.bin .rem), [.t 13, .c (.int .u64 10)], none, 0, 0⟩, ⟨.t 15, .p (.bin .add), [.c (.int .u64 48), .t 14], none, 0, 0⟩, ⟨.t 16, .p (.toInt .u8), [.t 15], none, 0, 0⟩, ⟨.t 17, .p (.ixarrp 20 1), [.l 3, .t 12], none, 0, 0⟩, ⟨.no, .e (.store 1), [.t 17, .t 16], none, 0, 0⟩])
 (.seq (.reg [⟨.t 18, .p (.mv), [.l 5], none, 0, 0⟩, ⟨.l 19, .p (.bin .lss), [.t 18, .c (.int .u64 10)], none, 0, 0⟩])
 (.cond (.l 19) (.exit 0)
 .skip)))))
 (.reg [⟨.t 8, .p (.mv), [.l 5], none, 0, 0⟩, ⟨.t 9, .p (.bin .quo), [.t 8, .c (.int .u64 10)], none, 0, 0⟩, ⟨.l 5, .p (.mv), [.t 9], none, 0, 0⟩])))))
 (.seq (.seq (.reg [⟨.t 20, .p (.mv), [.l 0], none, 0, 0⟩, ⟨.l 21, .p (.bin .lss), [.t 20, .c (.int .i64 0)], none, 0, 0⟩])
 (.cond (.l 21) (.seq (.reg [⟨.t 22, .p (.mv), [.l 4], none, 0, 0⟩, ⟨.t 23, .p (.bin .sub), [.t 22, .c (.int .i64 1)], none, 0, 0⟩, ⟨.l 4, .p (.mv), [.t 23], none, 0, 0⟩])
 (.reg [⟨.t 24, .p (.mv), [.l 4], none, 0, 0⟩, ⟨.t 25, .p (.ixarrp 20 1), [.l 3, .t 24], none, 0, 0⟩, ⟨.no, .e (.store 1), [.t 25, .c (.int .u8 45)], none, 0, 0⟩]))
 .skip))
 (.seq (.reg [⟨.t 26, .p (.mv), [.l 4], none, 0, 0⟩, ⟨.t 27, .p (.slc (.arr 20 1) true false false), [.l 3, .t 26], none, 0, 0⟩, ⟨.t 28, .r (.b2s), [.t 27], none, 0, 0⟩, ⟨.l 2, .p (.mv), [.t 28], none, 0, 0⟩])
 .ret)))))),
 [.tmp (.l 2)]⟩
theorem cf109_ok : compF TP Tryz.f109 = some cf109 := by kernel_rfl
def cf145 : CF := ⟨1, (.seq (.reg [⟨.l 2, .p (.mv), [.c (.int .u64 0)], none, 0, 0⟩])
 (.seq (.seq (.reg [⟨.t 3, .p (.mv), [.l 0], none, 0, 0⟩, ⟨.l 4, .p (.bin .lss), [.t 3, .c (.int .i64 0)], none, 0, 0⟩])
 (.cond (.l 4) (.seq (.reg [⟨.t 5, .p (.mv), [.l 0], none, 0, 0⟩, ⟨.t 6, .p (.toInt .u64), [.t 5], none, 0, 0⟩, ⟨.t 7, .p (.un .neg), [.t 6], none, 0, 0⟩, ⟨.l 2, .p (.mv), [.t 7], none, 0, 0⟩])
 .ret)
 .skip))
 (.seq (.reg [⟨.t 8, .p (.mv), [.l 0], none, 0, 0⟩, ⟨.t 9, .p (.toInt .u64), [.t 8], none, 0, 0⟩, ⟨.l 2, .p (.mv), [.t 9], none, 0, 0⟩])
 .ret))),
 [.tmp (.l 2)]⟩
theorem cf145_ok : compF TP Tryz.f145 = some cf145 := by kernel_rfl
end
end Ev
end Go.Proofs.YtchmfcjfdhokoaaGreatDoor
