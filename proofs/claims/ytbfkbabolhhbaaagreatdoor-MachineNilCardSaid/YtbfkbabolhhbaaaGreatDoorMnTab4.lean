/-
  The functions of the program, compiled (printed by a program of ours; each is held against the program's own text below).
-/
import Derived.Test.YtbfkbabolhhbaaaGreatDoorMnTab1
namespace Go.Proofs.YtbfkbabolhhbaaaGreatDoor
namespace Ev
noncomputable section
def cf281 : CF := ⟨2, (.seq (.reg [⟨.l 4, .p (.mv), [.c (.bool false)], none, 0, 0⟩])
 (.seq (.reg [⟨.t 5, .p (.mv), [.l 0], none, 0, 0⟩, ⟨.t 6, .p (.mv), [.l 1], none, 0, 0⟩, ⟨.t 7, .call 338, [.t 5, .t 6], none, 0, 0⟩, ⟨.t 8, .p (.bin .geq), [.t 7, .c (.int .i64 0)], none, 0, 0⟩, ⟨.l 4, .p (.mv), [.t 8], none, 0, 0⟩])
 .ret)),
 [.tmp (.l 4)]⟩
theorem cf281_ok : compF TP Tryz.f281 = some cf281 := by kernel_rfl
def cf289 : CF := ⟨1, (.seq (.reg [⟨.l 2, .p (.mv), [.c (.int .u64 0)], none, 0, 0⟩, ⟨.l 3, .p (.mv), [.c (.bool false)], none, 0, 0⟩])
 (.seq (.seq (.reg [⟨.t 4, .p (.mv), [.l 0], none, 0, 0⟩, ⟨.t 5, .p (.bin .lss), [.t 4, .c (.int .i64 0)], none, 0, 0⟩, ⟨.t 6, .p (.mv), [.t 5], none, 0, 0⟩, ⟨.t 7, .p (.mv), [.l 0], (some (.t 6, false)), 0, 0⟩, ⟨.t 8, .p (.bin .gtr), [.t 7, .c (.int .i64 2147483647)], (some (.t 6, false)), 0, 0⟩, ⟨.l 9, .p (.pick), [.t 6, .c (.bool true), .t 8], none, 0, 0⟩])
 (.cond (.l 9) (.seq (.reg [⟨.l 2, .p (.mv), [.c (.int .u64 0)], none, 0, 0⟩, ⟨.l 3, .p (.mv), [.c (.bool false)], none, 0, 0⟩])
 .ret)
 .skip))
 (.seq (.reg [⟨.t 10, .p (.mv), [.l 0], none, 0, 0⟩, ⟨.t 11, .p (.toInt .u64), [.t 10], none, 0, 0⟩, ⟨.t 12, .p (.bin .shl), [.t 11, .c (.int .u64 4)], none, 0, 0⟩, ⟨.t 13, .p (.bin .or), [.t 12, .c (.int .u64 7)], none, 0, 0⟩, ⟨.l 2, .p (.mv), [.t 13], none, 0, 0⟩, ⟨.l 3, .p (.mv), [.c (.bool true)], none, 0, 0⟩])
 .ret))),
 [.tmp (.l 2), .tmp (.l 3)]⟩
theorem cf289_ok : compF TP Tryz.f289 = some cf289 := by kernel_rfl
def cf290 : CF := ⟨2, (.seq (.reg [⟨.l 4, .p (.mv), [.c (.str 0 0)], none, 0, 0⟩])
 (.seq (.reg [⟨.t 10, .p (.mv), [.l 1], none, 0, 0⟩, ⟨.t 11, .call 188, [.t 10], none, 0, 0⟩, ⟨.t 9, .p (.mv), [.t 11], none, 0, 0⟩, ⟨.t 12, .p (.ext 0), [.t 9], none, 0, 0⟩, ⟨.t 13, .p (.ext 1), [.t 9], none, 0, 0⟩, ⟨.l 5, .p (.mv), [.t 12], none, 0, 0⟩, ⟨.t 6, .p (.mv), [.t 13], none, 0, 0⟩])
 (.seq (.reg [⟨.t 15, .p (.mv), [.l 0], none, 0, 0⟩, ⟨.t 16, .p (.nilc), [.t 15], none, 0, 0⟩, ⟨.t 17, .p (.fa 6), [.t 16], none, 0, 0⟩, ⟨.t 18, .r (.load false 1), [.t 17], none, 0, 0⟩, ⟨.t 19, .p (.mv), [.l 5], none, 0, 0⟩, ⟨.t 20, .call 340, [.t 18, .t 19], none, 0, 0⟩, ⟨.t 14, .p (.mv), [.t 20], none, 0, 0⟩, ⟨.t 21, .p (.ext 0), [.t 14], none, 0, 0⟩, ⟨.t 22, .p (.ext 1), [.t 14], none, 0, 0⟩, ⟨.l 7, .p (.mv), [.t 21], none, 0, 0⟩, ⟨.t 8, .p (.mv), [.t 22], none, 0, 0⟩])
 (.seq (.reg [⟨.t 23, .p (.mv), [.l 7], none, 0, 0⟩, ⟨.l 4, .p (.mv), [.t 23], none, 0, 0⟩])
 .ret)))),
 [.tmp (.l 4)]⟩
theorem cf290_ok : compF TP Tryz.f290 = some cf290 := by kernel_rfl
def cf292 : CF := ⟨2, (.seq (.reg [⟨.l 4, .p (.mv), [.c (.int .i64 0)], none, 0, 0⟩])
 (.seq (.reg [⟨.t 7, .p (.mv), [.l 0], none, 0, 0⟩, ⟨.t 8, .call 341, [.t 7], none, 0, 0⟩, ⟨.l 5, .p (.mv), [.t 8], none, 0, 0⟩])
 (.seq (.reg [⟨.t 9, .p (.mv), [.l 1], none, 0, 0⟩, ⟨.t 10, .call 341, [.t 9], none, 0, 0⟩, ⟨.l 6, .p (.mv), [.t 10], none, 0, 0⟩])
 (.seq (.seq (.reg [⟨.l 11, .p (.mv), [.l 5], none, 0, 0⟩])
 (.cond (.l 11) (.seq (.seq (.reg [⟨.l 12, .p (.mv), [.l 6], none, 0, 0⟩])
 (.cond (.l 12) (.seq (.reg [⟨.l 4, .p (.mv), [.c (.int .i64 0)], none, 0, 0⟩])
 .ret)
 .skip))
 (.seq (.reg [⟨.l 4, .p (.mv), [.c (.int .i64 (-1))], none, 0, 0⟩])
 .ret))
 .skip))
 (.seq (.seq (.reg [⟨.l 13, .p (.mv), [.l 6], none, 0, 0⟩])
 (.cond (.l 13) (.seq (.reg [⟨.l 4, .p (.mv), [.c (.int .i64 1)], none, 0, 0⟩])
 .ret)
 .skip))
 (.seq (.seq (.reg [⟨.t 14, .p (.mv), [.l 0], none, 0, 0⟩, ⟨.t 15, .p (.mv), [.l 1], none, 0, 0⟩, ⟨.l 16, .p (.bin .lss), [.t 14, .t 15], none, 0, 0⟩])
 (.cond (.l 16) (.seq (.reg [⟨.l 4, .p (.mv), [.c (.int .i64 (-1))], none, 0, 0⟩])
 .ret)
 .skip))
 (.seq (.seq (.reg [⟨.t 17, .p (.mv), [.l 0], none, 0, 0⟩, ⟨.t 18, .p (.mv), [.l 1], none, 0, 0⟩, ⟨.l 19, .p (.bin .gtr), [.t 17, .t 18], none, 0, 0⟩])
 (.cond (.l 19) (.seq (.reg [⟨.l 4, .p (.mv), [.c (.int .i64 1)], none, 0, 0⟩])
 .ret)
 .skip))
 (.seq (.reg [⟨.l 4, .p (.mv), [.c (.int .i64 0)], none, 0, 0⟩])
 .ret)))))))),
 [.tmp (.l 4)]⟩
theorem cf292_ok : compF TP Tryz.f292 = some cf292 := by kernel_rfl
def cf293 : CF := ⟨2, (.seq (.reg [⟨.l 4, .p (.mv), [.c (.int .i64 0)], none, 0, 0⟩])
 (.seq (.seq (.reg [⟨.t 6, .p (.mv), [.l 0], none, 0, 0⟩, ⟨.t 7, .p (.leng .sl), [.t 6], none, 0, 0⟩, ⟨.t 8, .p (.mv), [.l 1], none, 0, 0⟩, ⟨.t 9, .p (.leng .sl), [.t 8], none, 0, 0⟩, ⟨.t 10, .call 292, [.t 7, .t 9], none, 0, 0⟩, ⟨.l 5, .p (.mv), [.t 10], none, 0, 0⟩])
 (.seq (.reg [⟨.t 11, .p (.mv), [.l 5], none, 0, 0⟩, ⟨.l 12, .p (.bin .neq), [.t 11, .c (.int .i64 0)], none, 0, 0⟩])
 (.cond (.l 12) (.seq (.reg [⟨.t 13, .p (.mv), [.l 5], none, 0, 0⟩, ⟨.l 4, .p (.mv), [.t 13], none, 0, 0⟩])
 .ret)
 .skip)))
 (.seq (.reg [⟨.t 14, .p (.mv), [.l 0], none, 0, 0⟩, ⟨.t 15, .p (.mv), [.l 1], none, 0, 0⟩, ⟨.t 16, .call 342, [.t 14, .t 15, .c (.func (.func 213) [] [])], none, 0, 0⟩, ⟨.l 4, .p (.mv), [.t 16], none, 0, 0⟩])
 .ret))),
 [.tmp (.l 4)]⟩
theorem cf293_ok : compF TP Tryz.f293 = some cf293 := by kernel_rfl
def cf296 : CF := ⟨1, (.seq (.reg [⟨.l 2, .p (.mv), [.c (.int .i64 0)], none, 0, 0⟩])
 (.seq (.reg [⟨.l 3, .p (.mv), [.c (.int .i64 0)], none, 0, 0⟩])
 (.seq (.seq (.reg [⟨.l 6, .p (.mv), [.l 0], none, 0, 0⟩, ⟨.l 7, .p (.leng .sl), [.l 6], none, 0, 0⟩, ⟨.l 8, .p (.mv), [.c (.int .i64 0)], none, 0, 0⟩])
 (.block 0 (.loop (.seq (.reg [⟨.l 9, .p (.bin .lss), [.l 8, .l 7], none, 0, 0⟩])
 (.seq (.cond (.l 9) .skip
 (.exit 0))
 (.seq (.block 1 (.seq (.reg [⟨.t 10, .p (.ixsl 1), [.l 6, .l 8], none, 0, 0⟩, ⟨.t 11, .r (.load false 1), [.t 10], none, 0, 0⟩, ⟨.l 5, .p (.mv), [.t 11], none, 0, 0⟩])
 (.seq (.reg [⟨.t 12, .p (.mv), [.l 5], none, 0, 0⟩, ⟨.t 13, .p (.mv), [.l 3], none, 0, 0⟩, ⟨.l 14, .p (.bin .neq), [.t 12, .t 13], none, 0, 0⟩])
 (.cond (.l 14) (.seq (.reg [⟨.t 15, .p (.mv), [.l 5], none, 0, 0⟩, ⟨.l 2, .p (.mv), [.t 15], none, 0, 0⟩])
 .ret)
 .skip))))
 (.reg [⟨.t 16, .p (.bin .add), [.l 8, .c (.int .i64 1)], none, 0, 0⟩, ⟨.l 8, .p (.mv), [.t 16], none, 0, 0⟩])))))))
 (.seq (.reg [⟨.t 17, .p (.mv), [.l 3], none, 0, 0⟩, ⟨.l 2, .p (.mv), [.t 17], none, 0, 0⟩])
 .ret)))),
 [.tmp (.l 2)]⟩
theorem cf296_ok : compF TP Tryz.f296 = some cf296 := by kernel_rfl
def cf298 : CF := ⟨2, (.seq (.reg [⟨.l 4, .p (.mv), [.c (.int .i64 0)], none, 0, 0⟩])
 (.seq (.reg [⟨.t 7, .p (.mv), [.l 0], none, 0, 0⟩, ⟨.t 8, .call 345, [.t 7], none, 0, 0⟩, ⟨.l 5, .p (.mv), [.t 8], none, 0, 0⟩])
 (.seq (.reg [⟨.t 9, .p (.mv), [.l 1], none, 0, 0⟩, ⟨.t 10, .call 345, [.t 9], none, 0, 0⟩, ⟨.l 6, .p (.mv), [.t 10], none, 0, 0⟩])
 (.seq (.seq (.reg [⟨.l 11, .p (.mv), [.l 5], none, 0, 0⟩])
 (.cond (.l 11) (.seq (.seq (.reg [⟨.l 12, .p (.mv), [.l 6], none, 0, 0⟩])
 (.cond (.l 12) (.seq (.reg [⟨.l 4, .p (.mv), [.c (.int .i64 0)], none, 0, 0⟩])
 .ret)
 .skip))
 (.seq (.reg [⟨.l 4, .p (.mv), [.c (.int .i64 (-1))], none, 0, 0⟩])
 .ret))
 .skip))
 (.seq (.seq (.reg [⟨.l 13, .p (.mv), [.l 6], none, 0, 0⟩])
 (.cond (.l 13) (.seq (.reg [⟨.l 4, .p (.mv), [.c (.int .i64 1)], none, 0, 0⟩])
 .ret)
 .skip))
 (.seq (.seq (.reg [⟨.t 14, .p (.mv), [.l 0], none, 0, 0⟩, ⟨.t 15, .p (.mv), [.l 1], none, 0, 0⟩, ⟨.l 16, .p (.bin .lss), [.t 14, .t 15], none, 0, 0⟩])
 (.cond (.l 16) (.seq (.reg [⟨.l 4, .p (.mv), [.c (.int .i64 (-1))], none, 0, 0⟩])
 .ret)
 .skip))
 (.seq (.seq (.reg [⟨.t 17, .p (.mv), [.l 0], none, 0, 0⟩, ⟨.t 18, .p (.mv), [.l 1], none, 0, 0⟩, ⟨.l 19, .p (.bin .gtr), [.t 17, .t 18], none, 0, 0⟩])
 (.cond (.l 19) (.seq (.reg [⟨.l 4, .p (.mv), [.c (.int .i64 1)], none, 0, 0⟩])
 .ret)
 .skip))
 (.seq (.reg [⟨.l 4, .p (.mv), [.c (.int .i64 0)], none, 0, 0⟩])
 .ret)))))))),
 [.tmp (.l 4)]⟩
theorem cf298_ok : compF TP Tryz.f298 = some cf298 := by kernel_rfl
def cf301 : CF := ⟨1, (.seq (.reg [⟨.l 2, .p (.mv), [.c (.str 0 0)], none, 0, 0⟩])
 (.seq (.reg [⟨.l 3, .a (.alloc [(.int .u8 0), (.int .u8 0), (.int .u8 0), (.int .u8 0), (.int .u8 0), (.int .u8 0), (.int .u8 0), (.int .u8 0), (.int .u8 0), (.int .u8 0), (.int .u8 0), (.int .u8 0), (.int .u8 0), (.int .u8 0), (.int .u8 0), (.int .u8 0), (.int .u8 0), (.int .u8 0), (.int .u8 0), (.int .u8 0)]), [], none, 0, 0⟩])
 (.seq (.reg [⟨.l 4, .p (.mv), [.c (.int .i64 20)], none, 0, 0⟩])
 (.seq (.seq (.reg [⟨.t 6, .p (.mv), [.l 0], none, 0, 0⟩, ⟨.t 7, .call 347, [.t 6], none, 0, 0⟩, ⟨.l 5, .p (.mv), [.t 7], none, 0, 0⟩])
 (.block 0 (.loop (.seq (.block 1 (.seq (.reg [⟨.t 10, .p (.mv), [.l 4], none, 0, 0⟩, ⟨.t 11, .p (.bin .sub), [.t 10, .c (.int .i64 1)], none, 0, 0⟩, ⟨.l 4, .p (.mv), [.t 11], none, 0, 0⟩])
 (.seq (.reg [⟨.t 12, .p (.mv), [.l 4], none, 0, 0⟩, ⟨.t 13, .p (.mv), [.l 5], none, 0, 0⟩, ⟨.t 14, .p (.bin .rem), [.t 13, .c (.int .u64 10)], none, 0, 0⟩, ⟨.t 15, .p (.bin .add), [.c (.int .u64 48), .t 14], none, 0, 0⟩, ⟨.t 16, .p (.toInt .u8), [.t 15], none, 0, 0⟩, ⟨.t 17, .p (.ixarrp 20 1), [.l 3, .t 12], none, 0, 0⟩, ⟨.no, .e (.store 1), [.t 17, .t 16], none, 0, 0⟩])
 (.seq (.reg [⟨.t 18, .p (.mv), [.l 5], none, 0, 0⟩, ⟨.l 19, .p (.bin .lss), [.t 18, .c (.int .u64 10)], none, 0, 0⟩])
 (.cond (.l 19) (.exit 0)
 .skip)))))
 (.reg [⟨.t 8, .p (.mv), [.l 5], none, 0, 0⟩, ⟨.t 9, .p (.bin .quo), [.t 8, .c (.int .u64 10)], none, 0, 0⟩, ⟨.l 5, .p (.mv), [.t 9], none, 0, 0⟩])))))
 (.seq (.seq (.reg [⟨.t 20, .p (.mv), [.l 0], none, 0, 0⟩, ⟨.l 21, .p (.bin .lss), [.t 20, .c (.int .i64 0)], none, 0, 0⟩])
 (.cond (.l 21) (.seq (.reg [⟨.t 22, .p (.mv), [.l 4], none, 0, 0⟩, ⟨.t 23, .p (.bin .sub), [.t 22, .c (.int .i64 1)], none, 0, 0⟩, ⟨.l 4, .p (.mv), [.t 23], none, 0, 0⟩])
 (.reg [⟨.t 24, .p (.mv), [.l 4], none, 0, 0⟩, ⟨.t 25, .p (.ixarrp 20 1), [.l 3, .t 24], none, 0, 0⟩, ⟨.no, .e (.store 1), [.t 25, .c (.int .u8 45)], none, 0, 0⟩]))
 .skip))
 (.seq (.reg [⟨.t 26, .p (.mv), [.l 4], none, 0, 0⟩, ⟨.t 27, .p (.slc (.arr 20 1) true false false), [.l 3, .t 26], none, 0, 0⟩, ⟨.t 28, .r (.b2s), [.t 27], none, 0, 0⟩, ⟨.l 2, .p (.mv), [.t 28], none, 0, 0⟩])
 .ret)))))),
 [.tmp (.l 2)]⟩
theorem cf301_ok : compF TP Tryz.f301 = some cf301 := by kernel_rfl
def cf302 : CF := ⟨0, (.seq (.reg [⟨.l 0, .p (.mv), [.c .nilm], none, 0, 0⟩])
 (.seq (.reg [⟨.t 1, .a (.mkm false), [], none, 0, 0⟩, ⟨.t 2, .call 348, [.c (.func (.func 349) [] [])], none, 0, 0⟩, ⟨.no, .e (.mapup (.one .s)), [.t 1, .c (.str 1 43), .t 2], none, 0, 0⟩, ⟨.t 3, .call 348, [.c (.func (.func 350) [] [])], none, 0, 0⟩, ⟨.no, .e (.mapup (.one .s)), [.t 1, .c (.str 1 45), .t 3], none, 0, 0⟩, ⟨.t 4, .call 348, [.c (.func (.func 351) [] [])], none, 0, 0⟩, ⟨.no, .e (.mapup (.one .s)), [.t 1, .c (.str 1 42), .t 4], none, 0, 0⟩, ⟨.t 5, .call 348, [.c (.func (.func 352) [] [])], none, 0, 0⟩, ⟨.no, .e (.mapup (.one .s)), [.t 1, .c (.str 3 7760228), .t 5], none, 0, 0⟩, ⟨.t 6, .call 348, [.c (.func (.func 353) [] [])], none, 0, 0⟩, ⟨.no, .e (.mapup (.one .s)), [.t 1, .c (.str 3 7169394), .t 6], none, 0, 0⟩, ⟨.t 7, .call 348, [.c (.func (.func 354) [] [])], none, 0, 0⟩, ⟨.no, .e (.mapup (.one .s)), [.t 1, .c (.str 3 7107426), .t 7], none, 0, 0⟩, ⟨.t 8, .call 348, [.c (.func (.func 355) [] [])], none, 0, 0⟩, ⟨.no, .e (.mapup (.one .s)), [.t 1, .c (.str 3 7500642), .t 8], none, 0, 0⟩, ⟨.t 9, .call 348, [.c (.func (.func 356) [] [])], none, 0, 0⟩, ⟨.no, .e (.mapup (.one .s)), [.t 1, .c (.str 4 1684955490), .t 9], none, 0, 0⟩, ⟨.t 10, .call 348, [.c (.func (.func 357) [] [])], none, 0, 0⟩, ⟨.no, .e (.mapup (.one .s)), [.t 1, .c (.str 3 7499618), .t 10], none, 0, 0⟩, ⟨.t 11, .call 348, [.c (.func (.func 358) [] [])], none, 0, 0⟩, ⟨.no, .e (.mapup (.one .s)), [.t 1, .c (.str 4 1919907938), .t 11], none, 0, 0⟩, ⟨.t 12, .call 348, [.c (.func (.func 359) [] [])], none, 0, 0⟩, ⟨.no, .e (.mapup (.one .s)), [.t 1, .c (.str 6 54079886683746), .t 12], none, 0, 0⟩, ⟨.t 13, .call 348, [.c (.func (.func 360) [] [])], none, 0, 0⟩, ⟨.no, .e (.mapup (.one .s)), [.t 1, .c (.str 3 3223341), .t 13], none, 0, 0⟩, ⟨.t 14, .call 362, [.c (.func (.func 363) [] [])], none, 0, 0⟩, ⟨.no, .e (.mapup (.one .s)), [.t 1, .c (.str 3 6581857), .t 14], none, 0, 0⟩, ⟨.t 15, .call 362, [.c (.func (.func 364) [] [])], none, 0, 0⟩, ⟨.no, .e (.mapup (.one .s)), [.t 1, .c (.str 2 29295), .t 15], none, 0, 0⟩, ⟨.t 16, .call 362, [.c (.func (.func 365) [] [])], none, 0, 0⟩, ⟨.no, .e (.mapup (.one .s)), [.t 1, .c (.str 3 7499640), .t 16], none, 0, 0⟩, ⟨.t 17, .call 362, [.c (.func (.func 366) [] [])], none, 0, 0⟩, ⟨.no, .e (.mapup (.one .s)), [.t 1, .c (.str 5 211249557358), .t 17], none, 0, 0⟩, ⟨.t 18, .call 367, [.c (.func (.func 368) [] [])], none, 0, 0⟩, ⟨.no, .e (.mapup (.one .s)), [.t 1, .c (.str 3 4012605), .t 18], none, 0, 0⟩, ⟨.t 19, .call 367, [.c (.func (.func 369) [] [])], none, 0, 0⟩, ⟨.no, .e (.mapup (.one .s)), [.t 1, .c (.str 3 4009789), .t 19], none, 0, 0⟩, ⟨.t 20, .call 367, [.c (.func (.func 370) [] [])], none, 0, 0⟩, ⟨.no, .e (.mapup (.one .s)), [.t 1, .c (.str 1 60), .t 20], none, 0, 0⟩, ⟨.t 21, .call 367, [.c (.func (.func 371) [] [])], none, 0, 0⟩, ⟨.no, .e (.mapup (.one .s)), [.t 1, .c (.str 2 15421), .t 21], none, 0, 0⟩, ⟨.t 22, .call 367, [.c (.func (.func 372) [] [])], none, 0, 0⟩, ⟨.no, .e (.mapup (.one .s)), [.t 1, .c (.str 1 62), .t 22], none, 0, 0⟩, ⟨.t 23, .call 367, [.c (.func (.func 373) [] [])], none, 0, 0⟩, ⟨.no, .e (.mapup (.one .s)), [.t 1, .c (.str 2 15678), .t 23], none, 0, 0⟩, ⟨.no, .e (.mapup (.one .s)), [.t 1, .c (.str 2 11051), .c (.func (.func 374) [] [])], none, 0, 0⟩, ⟨.t 24, .p (.mv), [.t 1], none, 0, 0⟩, ⟨.l 0, .p (.mv), [.t 24], none, 0, 0⟩])
 .ret)),
 [.tmp (.l 0)]⟩
theorem cf302_ok : compF TP Tryz.f302 = some cf302 := by kernel_rfl
def cf312 : CF := ⟨1, (.seq (.reg [⟨.l 2, .a (.alloc [(.str 0 0), (.int .i64 0), (.int .i64 0), (.int .i64 0), (.str 0 0), (.str 0 0), (.int .i64 0), .nils, (.str 0 0), (.int .i64 0)]), [], none, 0, 0⟩])
 (.seq (.reg [⟨.t 3, .p (.mv), [.l 0], none, 0, 0⟩, ⟨.t 4, .p (.build [(.int .i64 0), (.int .i64 0), (.int .i64 0), (.str 0 0), (.str 0 0), (.int .i64 0), .nils, (.str 0 0), (.int .i64 0)] [(0, 1), (3, 1)]), [.c (.int .i64 2), .t 3], none, 0, 0⟩, ⟨.t 5, .p (.build [(.str 0 0), (.int .i64 0), (.int .i64 0), (.int .i64 0), (.str 0 0), (.str 0 0), (.int .i64 0), .nils, (.str 0 0), (.int .i64 0)] [(0, 1), (1, 9)]), [.c (.str 5 491496043109), .t 4], none, 0, 0⟩, ⟨.no, .e (.store 10), [.l 2, .t 5], none, 0, 0⟩])
 .ret)),
 [.cell (.l 2) true 10]⟩
theorem cf312_ok : compF TP Tryz.f312 = some cf312 := by kernel_rfl
def cf313 : CF := ⟨2, (.seq (.reg [⟨.l 10, .a (.bslice [(.bool false)] 2 1 [(0, 1), (1, 1)]), [.c (.bool false), .c (.bool true)], none, 0, 0⟩, ⟨.l 11, .p (.leng .sl), [.l 10], none, 0, 0⟩, ⟨.l 12, .p (.mv), [.c (.int .i64 0)], none, 0, 0⟩])
 (.block 0 (.loop (.seq (.reg [⟨.l 13, .p (.bin .lss), [.l 12, .l 11], none, 0, 0⟩])
 (.seq (.cond (.l 13) .skip
 (.exit 0))
 (.seq (.block 1 (.seq (.reg [⟨.t 14, .p (.ixsl 1), [.l 10, .l 12], none, 0, 0⟩, ⟨.t 15, .r (.load false 1), [.t 14], none, 0, 0⟩, ⟨.l 4, .p (.mv), [.t 15], none, 0, 0⟩])
 (.seq (.reg [⟨.t 16, .r (.load false 1), [.l 1], none, 0, 0⟩, ⟨.t 17, .p (.mv), [.l 4], none, 0, 0⟩, ⟨.t 18, .call 190, [.t 16, .t 17], none, 0, 0⟩, ⟨.l 5, .p (.mv), [.t 18], none, 0, 0⟩])
 (.seq (.reg [⟨.t 19, .p (.mv), [.l 5], none, 0, 0⟩, ⟨.t 20, .p (.nilc), [.t 19], none, 0, 0⟩, ⟨.t 21, .p (.fa 1), [.t 20], none, 0, 0⟩, ⟨.l 22, .r (.load false 1), [.t 21], none, 0, 0⟩, ⟨.l 23, .p (.leng .sl), [.l 22], none, 0, 0⟩, ⟨.l 24, .p (.mv), [.c (.int .i64 0)], none, 0, 0⟩])
 (.block 2 (.loop (.seq (.reg [⟨.l 25, .p (.bin .lss), [.l 24, .l 23], none, 0, 0⟩])
 (.seq (.cond (.l 25) .skip
 (.exit 2))
 (.seq (.block 3 (.seq (.reg [⟨.t 26, .p (.mv), [.l 24], none, 0, 0⟩, ⟨.t 27, .p (.ixsl 1), [.l 22, .l 24], none, 0, 0⟩, ⟨.t 28, .r (.load false 1), [.t 27], none, 0, 0⟩, ⟨.l 6, .p (.mv), [.t 26], none, 0, 0⟩, ⟨.l 7, .p (.mv), [.t 28], none, 0, 0⟩])
 (.seq (.seq (.reg [⟨.t 29, .p (.mv), [.l 7], none, 0, 0⟩, ⟨.l 30, .p (.un .not), [.t 29], none, 0, 0⟩])
 (.cond (.l 30) (.exit 3)
 .skip))
 (.seq (.reg [⟨.t 32, .p (.mv), [.l 4], none, 0, 0⟩, ⟨.t 33, .p (.mv), [.l 6], none, 0, 0⟩, ⟨.t 34, .call 286, [.t 32, .t 33], none, 0, 0⟩, ⟨.t 31, .p (.mv), [.t 34], none, 0, 0⟩, ⟨.t 35, .p (.ext 0), [.t 31], none, 0, 0⟩, ⟨.t 36, .p (.ext 1), [.t 31], none, 0, 0⟩, ⟨.l 8, .p (.mv), [.t 35], none, 0, 0⟩, ⟨.t 9, .p (.mv), [.t 36], none, 0, 0⟩])
 (.seq (.seq (.reg [⟨.t 37, .p (.mv), [.l 5], none, 0, 0⟩, ⟨.t 38, .p (.nilc), [.t 37], none, 0, 0⟩, ⟨.t 39, .p (.fa 0), [.t 38], none, 0, 0⟩, ⟨.t 40, .r (.load false 1), [.t 39], none, 0, 0⟩, ⟨.t 41, .p (.mv), [.l 6], none, 0, 0⟩, ⟨.t 42, .p (.ixsl 1), [.t 40, .t 41], none, 0, 0⟩, ⟨.t 43, .r (.load false 1), [.t 42], none, 0, 0⟩, ⟨.t 44, .call 192, [.t 43], none, 0, 0⟩, ⟨.l 45, .p (.bin .neq), [.t 44, .c (.int .i64 0)], none, 0, 0⟩])
 (.cond (.l 45) (.reg [⟨.t 47, .p (.mv), [.l 4], none, 0, 0⟩, ⟨.t 48, .p (.mv), [.l 6], none, 0, 0⟩, ⟨.t 49, .call 288, [.t 47, .t 48], none, 0, 0⟩, ⟨.t 46, .p (.mv), [.t 49], none, 0, 0⟩, ⟨.t 50, .p (.ext 0), [.t 46], none, 0, 0⟩, ⟨.t 51, .p (.ext 1), [.t 46], none, 0, 0⟩, ⟨.l 8, .p (.mv), [.t 50], none, 0, 0⟩])
 .skip))
 (.seq (.reg [⟨.t 52, .p (.mv), [.l 0], none, 0, 0⟩, ⟨.t 53, .p (.mv), [.l 8], none, 0, 0⟩, ⟨.t 54, .callv, [.t 52, .t 53], none, 0, 0⟩, ⟨.l 55, .p (.un .not), [.t 54], none, 0, 0⟩])
 (.cond (.l 55) .ret
 .skip)))))))
 (.reg [⟨.t 56, .p (.bin .add), [.l 24, .c (.int .i64 1)], none, 0, 0⟩, ⟨.l 24, .p (.mv), [.t 56], none, 0, 0⟩]))))))))))
 (.reg [⟨.t 57, .p (.bin .add), [.l 12, .c (.int .i64 1)], none, 0, 0⟩, ⟨.l 12, .p (.mv), [.t 57], none, 0, 0⟩]))))))),
 []⟩
theorem cf313_ok : compF TP Tryz.f313 = some cf313 := by kernel_rfl
def cf314 : CF := ⟨0, (.seq (.reg [⟨.l 0, .p (.mv), [.c .nilm], none, 0, 0⟩])
 (.seq (.reg [⟨.t 3, .a (.mkm false), [], none, 0, 0⟩, ⟨.l 1, .a (.alloc [.nilm]), [], none, 0, 0⟩, ⟨.no, .e (.store 1), [.l 1, .t 3], none, 0, 0⟩])
 (.seq (.reg [⟨.t 4, .p (.mkf (.func 405) 0), [.l 1], none, 0, 0⟩, ⟨.l 2, .p (.mv), [.t 4], none, 0, 0⟩])
 (.seq (.reg [⟨.t 5, .p (.mv), [.l 2], none, 0, 0⟩, ⟨.t 6, .callv, [.t 5, .c (.int .i64 1), .c (.str 211 2643788049237875746027353956421256579877879755938887535316951059759369592555717365339016263365027618501812524394041916456107630935882219539062654111784106688242807265108499006909579367619711043370541396788490473410751723451644814999429197375349848118121197291676110575868848611747558760119856467310971821053183838999261785706908127509286587510957382674167142064579141726276195335717799002842036464030059972223758517794073400569462703278420382076657222687305171158147755303688062608438613618907131909108626281)], none, 0, 0⟩])
 (.seq (.reg [⟨.t 7, .p (.mv), [.l 2], none, 0, 0⟩, ⟨.t 8, .callv, [.t 7, .c (.int .i64 2), .c (.str 130 2309567611550875277204994674161353649923820728840937906004022259955814384767430420713629540289955323346488897252243258610309243515909333067562535498886036825999362825657067591809416156955820597497462137324242345962628091659841284438982893644934511546577333868034346565100900555615209792057877126969041213629687155)], none, 0, 0⟩])
 (.seq (.reg [⟨.t 9, .p (.mv), [.l 2], none, 0, 0⟩, ⟨.t 10, .callv, [.t 9, .c (.int .i64 3), .c (.str 326 23432797193871199407333496422669012367299329756827031624297655228348896489652091995020903033051514005582240654107251283804193553897754980763464707855962905347494948165397241680072134641162834970075957098854109284145689297344697482720779276625903820634785204952066235328051174553452503356106246011490484894671724025188345757335091502307861111567946691652232448241457647053841496573471555992490563340102516511656375177173333262957809226356687276663106690246514868571292902185291786131212997716888408723455673227194122100111222777000526364432920838613382261280238070156172435011051979694305378415251427278940642021762430988511956155483968407454369334577920402672521885831115680086389877854951673720855015018618345684868760042338146632436122985681635754182370565935330268791689787050389619)], none, 0, 0⟩])
 (.seq (.reg [⟨.t 11, .p (.mv), [.l 2], none, 0, 0⟩, ⟨.t 12, .callv, [.t 11, .c (.int .i64 4), .c (.str 15 265770033204623512752161048958627937)], none, 0, 0⟩])
 (.seq (.reg [⟨.t 13, .r (.load false 1), [.l 1], none, 0, 0⟩, ⟨.l 0, .p (.mv), [.t 13], none, 0, 0⟩])
 .ret)))))))),
 [.tmp (.l 0)]⟩
theorem cf314_ok : compF TP Tryz.f314 = some cf314 := by kernel_rfl
def cf317 : CF := ⟨1, (.seq (.reg [⟨.l 2, .p (.mv), [.c .nils], none, 0, 0⟩])
 (.seq (.block 0 (.loop (.seq (.seq (.reg [⟨.t 3, .p (.mv), [.l 0], none, 0, 0⟩, ⟨.t 4, .p (.leng .sl), [.t 3], none, 0, 0⟩, ⟨.t 5, .p (.bin .gtr), [.t 4, .c (.int .i64 0)], none, 0, 0⟩, ⟨.t 6, .p (.mv), [.t 5], none, 0, 0⟩, ⟨.t 7, .p (.mv), [.l 0], (some (.t 6, true)), 0, 0⟩, ⟨.t 8, .p (.mv), [.l 0], (some (.t 6, true)), 0, 0⟩, ⟨.t 9, .p (.leng .sl), [.t 8], (some (.t 6, true)), 0, 0⟩, ⟨.t 10, .p (.bin .sub), [.t 9, .c (.int .i64 1)], (some (.t 6, true)), 0, 0⟩, ⟨.t 11, .p (.ixsl 1), [.t 7, .t 10], (some (.t 6, true)), 0, 0⟩, ⟨.t 12, .r (.load false 1), [.t 11], (some (.t 6, true)), 0, 0⟩, ⟨.t 13, .p (.bin .eql), [.t 12, .c (.int .i64 0)], (some (.t 6, true)), 0, 0⟩, ⟨.l 14, .p (.pick), [.t 6, .t 13, .c (.bool false)], none, 0, 0⟩])
 (.cond (.l 14) .skip
 (.exit 0)))
 (.block 1 (.reg [⟨.t 15, .p (.mv), [.l 0], none, 0, 0⟩, ⟨.t 16, .p (.mv), [.l 0], none, 0, 0⟩, ⟨.t 17, .p (.leng .sl), [.t 16], none, 0, 0⟩, ⟨.t 18, .p (.bin .sub), [.t 17, .c (.int .i64 1)], none, 0, 0⟩, ⟨.t 19, .p (.slc (.sl 1) false true false), [.t 15, .t 18], none, 0, 0⟩, ⟨.l 0, .p (.mv), [.t 19], none, 0, 0⟩])))))
 (.seq (.reg [⟨.t 20, .p (.mv), [.l 0], none, 0, 0⟩, ⟨.l 2, .p (.mv), [.t 20], none, 0, 0⟩])
 .ret))),
 [.tmp (.l 2)]⟩
theorem cf317_ok : compF TP Tryz.f317 = some cf317 := by kernel_rfl
def cf318 : CF := ⟨3, (.seq (.reg [⟨.l 5, .a (.box), [.l 2], none, 0, 0⟩, ⟨.l 6, .p (.mv), [.c (.int .i64 0)], none, 0, 0⟩, ⟨.l 7, .p (.mv), [.c (.int .i64 0)], none, 0, 0⟩])
 (.seq (.seq (.reg [⟨.t 10, .p (.fa 0), [.l 5], none, 0, 0⟩, ⟨.l 11, .r (.load false 1), [.t 10], none, 0, 0⟩])
 (.block 0 (.seq (.reg [⟨.t 13, .p (.bin .eql), [.l 11, .c (.int .i64 1)], none, 0, 0⟩, ⟨.l 12, .p (.mv), [.t 13], none, 0, 0⟩])
 (.cond (.l 12) (.seq (.reg [⟨.t 14, .p (.mv), [.l 1], none, 0, 0⟩, ⟨.t 15, .p (.fa 1), [.l 5], none, 0, 0⟩, ⟨.t 16, .r (.load false 1), [.t 15], none, 0, 0⟩, ⟨.t 17, .call 320, [.t 14, .t 16], none, 0, 0⟩, ⟨.l 8, .p (.mv), [.t 17], none, 0, 0⟩])
 (.seq (.reg [⟨.t 18, .p (.mv), [.l 8], none, 0, 0⟩, ⟨.t 19, .p (.mv), [.l 8], none, 0, 0⟩, ⟨.t 20, .p (.bin .eql), [.t 19, .c (.int .i64 0)], none, 0, 0⟩, ⟨.t 21, .call 247, [.t 20, .c (.int .i64 186)], none, 0, 0⟩, ⟨.l 6, .p (.mv), [.t 18], none, 0, 0⟩, ⟨.l 7, .p (.mv), [.t 21], none, 0, 0⟩])
 .ret))
 (.seq (.reg [⟨.t 23, .p (.bin .eql), [.l 11, .c (.int .i64 2)], none, 0, 0⟩, ⟨.l 22, .p (.mv), [.t 23], none, 0, 0⟩])
 (.cond (.l 22) (.seq (.seq (.regD [⟨.t 24, .p (.fa 1), [.l 5], none, 0, 0⟩, ⟨.t 25, .r (.load false 1), [.t 24], none, 0, 0⟩, ⟨.t 26, .p (.mv), [.l 1], none, 0, 0⟩, ⟨.t 27, .p (.nilc), [.t 26], none, 0, 0⟩, ⟨.t 28, .p (.fa 0), [.t 27], none, 0, 0⟩, ⟨.t 29, .r (.load false 1), [.t 28], none, 0, 0⟩, ⟨.l 30, .p (.bin .geq), [.t 25, .t 29], none, 0, 0⟩])
 (.cond (.l 30) (.seq (.reg [⟨.l 6, .p (.mv), [.c (.int .i64 0)], none, 0, 0⟩, ⟨.l 7, .p (.mv), [.c (.int .i64 181)], none, 0, 0⟩])
 .ret)
 .skip))
 (.seq (.regD [⟨.t 31, .p (.mv), [.l 1], none, 0, 0⟩, ⟨.t 32, .p (.nilc), [.t 31], none, 0, 0⟩, ⟨.t 33, .p (.fa 2), [.t 32], none, 0, 0⟩, ⟨.t 34, .r (.load false 1), [.t 33], none, 0, 0⟩, ⟨.t 35, .p (.fa 1), [.l 5], none, 0, 0⟩, ⟨.t 36, .r (.load false 1), [.t 35], none, 0, 0⟩, ⟨.t 37, .p (.ixsl 1), [.t 34, .t 36], none, 0, 0⟩, ⟨.t 38, .r (.load false 1), [.t 37], none, 0, 0⟩, ⟨.l 6, .p (.mv), [.t 38], none, 0, 0⟩, ⟨.l 7, .p (.mv), [.c (.int .i64 0)], none, 0, 0⟩])
 .ret))
 .skip))))))
 (.seq (.seq (.regD [⟨.t 39, .p (.mv), [.l 0], none, 0, 0⟩, ⟨.t 40, .p (.nilc), [.t 39], none, 0, 0⟩, ⟨.t 41, .p (.fa 0), [.t 40], none, 0, 0⟩, ⟨.t 42, .r (.load false 1), [.t 41], none, 0, 0⟩, ⟨.t 43, .p (.nilc), [.t 42], none, 0, 0⟩, ⟨.t 44, .p (.fa 2), [.t 43], none, 0, 0⟩, ⟨.t 45, .r (.load false 1), [.t 44], none, 0, 0⟩, ⟨.t 46, .p (.fa 1), [.l 5], none, 0, 0⟩, ⟨.t 47, .r (.load false 1), [.t 46], none, 0, 0⟩, ⟨.t 48, .p (.ixsl 9), [.t 45, .t 47], none, 0, 0⟩, ⟨.l 9, .p (.mv), [.t 48], none, 0, 0⟩])
 (.seq (.reg [⟨.t 49, .p (.mv), [.l 9], none, 0, 0⟩, ⟨.t 50, .p (.nilc), [.t 49], none, 0, 0⟩, ⟨.t 51, .p (.fa 0), [.t 50], none, 0, 0⟩, ⟨.l 52, .r (.load false 1), [.t 51], none, 0, 0⟩])
 (.block 1 (.seq (.reg [⟨.t 54, .p (.bin .eql), [.l 52, .c (.int .i64 9)], none, 0, 0⟩, ⟨.l 53, .p (.mv), [.t 54], none, 0, 0⟩])
 (.cond (.l 53) (.seq (.reg [⟨.l 6, .p (.mv), [.c (.int .i64 2)], none, 0, 0⟩, ⟨.l 7, .p (.mv), [.c (.int .i64 0)], none, 0, 0⟩])
 .ret)
 (.seq (.reg [⟨.t 56, .p (.bin .eql), [.l 52, .c (.int .i64 7)], none, 0, 0⟩, ⟨.l 55, .p (.mv), [.t 56], none, 0, 0⟩])
 (.cond (.l 55) (.seq (.reg [⟨.t 57, .p (.mv), [.l 9], none, 0, 0⟩, ⟨.t 58, .p (.nilc), [.t 57], none, 0, 0⟩, ⟨.t 59, .p (.fa 6), [.t 58], none, 0, 0⟩, ⟨.t 60, .r (.load false 1), [.t 59], none, 0, 0⟩, ⟨.t 61, .p (.leng .sl), [.t 60], none, 0, 0⟩, ⟨.t 62, .p (.bin .add), [.c (.int .i64 3), .t 61], none, 0, 0⟩, ⟨.l 6, .p (.mv), [.t 62], none, 0, 0⟩, ⟨.l 7, .p (.mv), [.c (.int .i64 0)], none, 0, 0⟩])
 .ret)
 .skip)))))))
 (.seq (.reg [⟨.l 6, .p (.mv), [.c (.int .i64 1)], none, 0, 0⟩, ⟨.l 7, .p (.mv), [.c (.int .i64 0)], none, 0, 0⟩])
 .ret)))),
 [.tmp (.l 6), .tmp (.l 7)]⟩
theorem cf318_ok : compF TP Tryz.f318 = some cf318 := by kernel_rfl
def cf319 : CF := ⟨2, (.seq (.reg [⟨.l 4, .p (.mv), [.c (.int .i64 0)], none, 0, 0⟩])
 (.seq (.seq (.reg [⟨.t 5, .p (.mv), [.l 1], none, 0, 0⟩, ⟨.t 6, .p (.nilc), [.t 5], none, 0, 0⟩, ⟨.t 7, .p (.fa 0), [.t 6], none, 0, 0⟩, ⟨.l 8, .r (.load false 1), [.t 7], none, 0, 0⟩])
 (.block 0 (.seq (.seq (.reg [⟨.t 10, .p (.bin .eql), [.l 8, .c (.int .i64 15)], none, 0, 0⟩, ⟨.l 9, .p (.mv), [.t 10], none, 0, 0⟩])
 (.cond (.l 9) .skip
 (.seq (.reg [⟨.t 11, .p (.bin .eql), [.l 8, .c (.int .i64 18)], none, 0, 0⟩, ⟨.l 9, .p (.mv), [.t 11], none, 0, 0⟩])
 (.cond (.l 9) .skip
 (.seq (.reg [⟨.t 12, .p (.bin .eql), [.l 8, .c (.int .i64 19)], none, 0, 0⟩, ⟨.l 9, .p (.mv), [.t 12], none, 0, 0⟩])
 (.cond (.l 9) .skip
 (.seq (.reg [⟨.t 13, .p (.bin .eql), [.l 8, .c (.int .i64 20)], none, 0, 0⟩, ⟨.l 9, .p (.mv), [.t 13], none, 0, 0⟩])
 (.cond (.l 9) .skip
 (.reg [⟨.t 14, .p (.bin .eql), [.l 8, .c (.int .i64 21)], none, 0, 0⟩, ⟨.l 9, .p (.mv), [.t 14], none, 0, 0⟩])))))))))
 (.cond (.l 9) (.seq (.reg [⟨.t 15, .p (.mv), [.l 1], none, 0, 0⟩, ⟨.t 16, .p (.nilc), [.t 15], none, 0, 0⟩, ⟨.t 17, .p (.fa 5), [.t 16], none, 0, 0⟩, ⟨.t 18, .r (.load false 1), [.t 17], none, 0, 0⟩, ⟨.l 4, .p (.mv), [.t 18], none, 0, 0⟩])
 .ret)
 (.seq (.seq (.reg [⟨.t 20, .p (.bin .eql), [.l 8, .c (.int .i64 16)], none, 0, 0⟩, ⟨.l 19, .p (.mv), [.t 20], none, 0, 0⟩])
 (.cond (.l 19) .skip
 (.reg [⟨.t 21, .p (.bin .eql), [.l 8, .c (.int .i64 17)], none, 0, 0⟩, ⟨.l 19, .p (.mv), [.t 21], none, 0, 0⟩])))
 (.cond (.l 19) (.seq (.regD [⟨.t 22, .p (.mv), [.l 0], none, 0, 0⟩, ⟨.t 23, .p (.nilc), [.t 22], none, 0, 0⟩, ⟨.t 24, .p (.fa 0), [.t 23], none, 0, 0⟩, ⟨.t 25, .r (.load false 1), [.t 24], none, 0, 0⟩, ⟨.t 26, .p (.nilc), [.t 25], none, 0, 0⟩, ⟨.t 27, .p (.fa 3), [.t 26], none, 0, 0⟩, ⟨.t 28, .r (.load false 1), [.t 27], none, 0, 0⟩, ⟨.t 29, .p (.mv), [.l 1], none, 0, 0⟩, ⟨.t 30, .p (.nilc), [.t 29], none, 0, 0⟩, ⟨.t 31, .p (.fa 5), [.t 30], none, 0, 0⟩, ⟨.t 32, .r (.load false 1), [.t 31], none, 0, 0⟩, ⟨.t 33, .p (.ixsl 4), [.t 28, .t 32], none, 0, 0⟩, ⟨.t 34, .p (.fa 1), [.t 33], none, 0, 0⟩, ⟨.t 35, .r (.load false 1), [.t 34], none, 0, 0⟩, ⟨.l 4, .p (.mv), [.t 35], none, 0, 0⟩])
 .ret)
 (.seq (.reg [⟨.t 37, .p (.bin .eql), [.l 8, .c (.int .i64 26)], none, 0, 0⟩, ⟨.l 36, .p (.mv), [.t 37], none, 0, 0⟩])
 (.cond (.l 36) (.seq (.reg [⟨.l 4, .p (.mv), [.c (.int .i64 1)], none, 0, 0⟩])
 .ret)
 .skip))))))))
 (.seq (.reg [⟨.l 4, .p (.mv), [.c (.int .i64 0)], none, 0, 0⟩])
 .ret))),
 [.tmp (.l 4)]⟩
theorem cf319_ok : compF TP Tryz.f319 = some cf319 := by kernel_rfl
def cf320 : CF := ⟨2, (.seq (.reg [⟨.l 4, .p (.mv), [.c (.int .i64 0)], none, 0, 0⟩])
 (.seq (.seq (.reg [⟨.t 5, .p (.mv), [.l 1], none, 0, 0⟩, ⟨.t 6, .p (.mv), [.l 0], none, 0, 0⟩, ⟨.t 7, .p (.nilc), [.t 6], none, 0, 0⟩, ⟨.t 8, .p (.fa 1), [.t 7], none, 0, 0⟩, ⟨.t 9, .r (.load false 1), [.t 8], none, 0, 0⟩, ⟨.t 10, .p (.leng .sl), [.t 9], none, 0, 0⟩, ⟨.l 11, .p (.bin .lss), [.t 5, .t 10], none, 0, 0⟩])
 (.cond (.l 11) (.seq (.reg [⟨.t 12, .p (.mv), [.l 0], none, 0, 0⟩, ⟨.t 13, .p (.nilc), [.t 12], none, 0, 0⟩, ⟨.t 14, .p (.fa 1), [.t 13], none, 0, 0⟩, ⟨.t 15, .r (.load false 1), [.t 14], none, 0, 0⟩, ⟨.t 16, .p (.mv), [.l 1], none, 0, 0⟩, ⟨.t 17, .p (.ixsl 1), [.t 15, .t 16], none, 0, 0⟩, ⟨.t 18, .r (.load false 1), [.t 17], none, 0, 0⟩, ⟨.l 4, .p (.mv), [.t 18], none, 0, 0⟩])
 .ret)
 .skip))
 (.seq (.reg [⟨.l 4, .p (.mv), [.c (.int .i64 0)], none, 0, 0⟩])
 .ret))),
 [.tmp (.l 4)]⟩
theorem cf320_ok : compF TP Tryz.f320 = some cf320 := by kernel_rfl
def cf321 : CF := ⟨3, (.seq (.reg [⟨.l 6, .p (.mv), [.c (.int .i64 0)], none, 0, 0⟩])
 (.seq (.block 0 (.seq (.reg [⟨.t 10, .p (.mv), [.l 2], none, 0, 0⟩, ⟨.t 11, .p (.nilc), [.t 10], none, 0, 0⟩, ⟨.t 12, .p (.fa 0), [.t 11], none, 0, 0⟩, ⟨.t 13, .r (.load false 1), [.t 12], none, 0, 0⟩, ⟨.t 14, .p (.bin .eql), [.t 13, .c (.int .i64 1)], none, 0, 0⟩, ⟨.l 9, .p (.mv), [.t 14], none, 0, 0⟩])
 (.cond (.l 9) (.seq (.reg [⟨.t 16, .p (.mv), [.l 0], none, 0, 0⟩, ⟨.t 17, .p (.mv), [.l 1], none, 0, 0⟩, ⟨.t 18, .p (.mv), [.l 2], none, 0, 0⟩, ⟨.t 19, .p (.nilc), [.t 18], none, 0, 0⟩, ⟨.t 20, .p (.fa 3), [.t 19], none, 0, 0⟩, ⟨.t 21, .r (.load false 1), [.t 20], none, 0, 0⟩, ⟨.t 22, .p (.ixsl 2), [.t 21, .c (.int .i64 0)], none, 0, 0⟩, ⟨.t 23, .r (.load true 2), [.t 22], none, 0, 0⟩, ⟨.t 24, .call 318, [.t 16, .t 17, .t 23], none, 0, 0⟩, ⟨.t 15, .p (.mv), [.t 24], none, 0, 0⟩, ⟨.t 25, .p (.ext 0), [.t 15], none, 0, 0⟩, ⟨.t 26, .p (.ext 1), [.t 15], none, 0, 0⟩, ⟨.l 7, .p (.mv), [.t 25], none, 0, 0⟩, ⟨.t 8, .p (.mv), [.t 26], none, 0, 0⟩])
 (.seq (.reg [⟨.t 27, .p (.mv), [.l 7], none, 0, 0⟩, ⟨.l 6, .p (.mv), [.t 27], none, 0, 0⟩])
 .ret))
 (.seq (.seq (.reg [⟨.t 29, .p (.mv), [.l 2], none, 0, 0⟩, ⟨.t 30, .p (.nilc), [.t 29], none, 0, 0⟩, ⟨.t 31, .p (.fa 0), [.t 30], none, 0, 0⟩, ⟨.t 32, .r (.load false 1), [.t 31], none, 0, 0⟩, ⟨.t 33, .p (.bin .eql), [.t 32, .c (.int .i64 2)], none, 0, 0⟩, ⟨.l 28, .p (.mv), [.t 33], none, 0, 0⟩])
 (.cond (.l 28) .skip
 (.reg [⟨.t 34, .p (.mv), [.l 2], none, 0, 0⟩, ⟨.t 35, .p (.nilc), [.t 34], none, 0, 0⟩, ⟨.t 36, .p (.fa 0), [.t 35], none, 0, 0⟩, ⟨.t 37, .r (.load false 1), [.t 36], none, 0, 0⟩, ⟨.t 38, .p (.bin .eql), [.t 37, .c (.int .i64 13)], none, 0, 0⟩, ⟨.t 39, .p (.mv), [.t 38], none, 0, 0⟩, ⟨.t 40, .p (.mv), [.l 2], (some (.t 39, true)), 0, 0⟩, ⟨.t 41, .p (.nilc), [.t 40], (some (.t 39, true)), 0, 0⟩, ⟨.t 42, .p (.fa 7), [.t 41], (some (.t 39, true)), 0, 0⟩, ⟨.t 43, .r (.load false 1), [.t 42], (some (.t 39, true)), 0, 0⟩, ⟨.t 44, .p (.bin .eql), [.t 43, .c (.str 2 32123)], (some (.t 39, true)), 0, 0⟩, ⟨.t 45, .p (.pick), [.t 39, .t 44, .c (.bool false)], none, 0, 0⟩, ⟨.l 28, .p (.mv), [.t 45], none, 0, 0⟩])))
 (.cond (.l 28) (.seq (.reg [⟨.t 46, .p (.mv), [.l 2], none, 0, 0⟩, ⟨.t 47, .p (.nilc), [.t 46], none, 0, 0⟩, ⟨.t 48, .p (.fa 3), [.t 47], none, 0, 0⟩, ⟨.t 49, .r (.load false 1), [.t 48], none, 0, 0⟩, ⟨.t 50, .p (.leng .sl), [.t 49], none, 0, 0⟩, ⟨.t 51, .p (.bin .add), [.c (.int .i64 3), .t 50], none, 0, 0⟩, ⟨.l 6, .p (.mv), [.t 51], none, 0, 0⟩])
 .ret)
 (.seq (.seq (.reg [⟨.t 53, .p (.mv), [.l 2], none, 0, 0⟩, ⟨.t 54, .p (.nilc), [.t 53], none, 0, 0⟩, ⟨.t 55, .p (.fa 0), [.t 54], none, 0, 0⟩, ⟨.t 56, .r (.load false 1), [.t 55], none, 0, 0⟩, ⟨.t 57, .p (.bin .eql), [.t 56, .c (.int .i64 3)], none, 0, 0⟩, ⟨.l 52, .p (.mv), [.t 57], none, 0, 0⟩])
 (.cond (.l 52) .skip
 (.reg [⟨.t 58, .p (.mv), [.l 2], none, 0, 0⟩, ⟨.t 59, .p (.nilc), [.t 58], none, 0, 0⟩, ⟨.t 60, .p (.fa 0), [.t 59], none, 0, 0⟩, ⟨.t 61, .r (.load false 1), [.t 60], none, 0, 0⟩, ⟨.t 62, .p (.bin .eql), [.t 61, .c (.int .i64 13)], none, 0, 0⟩, ⟨.t 63, .p (.mv), [.t 62], none, 0, 0⟩, ⟨.t 64, .p (.mv), [.l 2], (some (.t 63, true)), 0, 0⟩, ⟨.t 65, .p (.nilc), [.t 64], (some (.t 63, true)), 0, 0⟩, ⟨.t 66, .p (.fa 7), [.t 65], (some (.t 63, true)), 0, 0⟩, ⟨.t 67, .r (.load false 1), [.t 66], (some (.t 63, true)), 0, 0⟩, ⟨.t 68, .p (.bin .eql), [.t 67, .c (.str 1 124)], (some (.t 63, true)), 0, 0⟩, ⟨.t 69, .p (.pick), [.t 63, .t 68, .c (.bool false)], none, 0, 0⟩, ⟨.l 52, .p (.mv), [.t 69], none, 0, 0⟩])))
 (.cond (.l 52) (.seq (.reg [⟨.l 6, .p (.mv), [.c (.int .i64 2)], none, 0, 0⟩])
 .ret)
 .skip)))))))
 (.seq (.reg [⟨.l 6, .p (.mv), [.c (.int .i64 1)], none, 0, 0⟩])
 .ret))),
 [.tmp (.l 6)]⟩
theorem cf321_ok : compF TP Tryz.f321 = some cf321 := by kernel_rfl
def cf322 : CF := ⟨1, (.seq (.reg [⟨.l 2, .p (.mv), [.c (.bool false)], none, 0, 0⟩])
 (.seq (.seq (.reg [⟨.l 3, .p (.mv), [.l 0], none, 0, 0⟩])
 (.block 0 (.seq (.seq (.reg [⟨.t 5, .p (.bin .eql), [.l 3, .c (.int .i64 2)], none, 0, 0⟩, ⟨.l 4, .p (.mv), [.t 5], none, 0, 0⟩])
 (.cond (.l 4) .skip
 (.seq (.reg [⟨.t 6, .p (.bin .eql), [.l 3, .c (.int .i64 3)], none, 0, 0⟩, ⟨.l 4, .p (.mv), [.t 6], none, 0, 0⟩])
 (.cond (.l 4) .skip
 (.seq (.reg [⟨.t 7, .p (.bin .eql), [.l 3, .c (.int .i64 4)], none, 0, 0⟩, ⟨.l 4, .p (.mv), [.t 7], none, 0, 0⟩])
 (.cond (.l 4) .skip
 (.seq (.reg [⟨.t 8, .p (.bin .eql), [.l 3, .c (.int .i64 13)], none, 0, 0⟩, ⟨.l 4, .p (.mv), [.t 8], none, 0, 0⟩])
 (.cond (.l 4) .skip
 (.seq (.reg [⟨.t 9, .p (.bin .eql), [.l 3, .c (.int .i64 14)], none, 0, 0⟩, ⟨.l 4, .p (.mv), [.t 9], none, 0, 0⟩])
 (.cond (.l 4) .skip
 (.seq (.reg [⟨.t 10, .p (.bin .eql), [.l 3, .c (.int .i64 31)], none, 0, 0⟩, ⟨.l 4, .p (.mv), [.t 10], none, 0, 0⟩])
 (.cond (.l 4) .skip
 (.seq (.reg [⟨.t 11, .p (.bin .eql), [.l 3, .c (.int .i64 32)], none, 0, 0⟩, ⟨.l 4, .p (.mv), [.t 11], none, 0, 0⟩])
 (.cond (.l 4) .skip
 (.seq (.reg [⟨.t 12, .p (.bin .eql), [.l 3, .c (.int .i64 33)], none, 0, 0⟩, ⟨.l 4, .p (.mv), [.t 12], none, 0, 0⟩])
 (.cond (.l 4) .skip
 (.reg [⟨.t 13, .p (.bin .eql), [.l 3, .c (.int .i64 35)], none, 0, 0⟩, ⟨.l 4, .p (.mv), [.t 13], none, 0, 0⟩])))))))))))))))))
 (.cond (.l 4) (.seq (.reg [⟨.l 2, .p (.mv), [.c (.bool true)], none, 0, 0⟩])
 .ret)
 .skip))))
 (.seq (.reg [⟨.l 2, .p (.mv), [.c (.bool false)], none, 0, 0⟩])
 .ret))),
 [.tmp (.l 2)]⟩
theorem cf322_ok : compF TP Tryz.f322 = some cf322 := by kernel_rfl
def cf323 : CF := ⟨3, (.seq (.reg [⟨.l 4, .a (.box), [.l 1], none, 0, 0⟩, ⟨.l 6, .p (.mv), [.c .nilp], none, 0, 0⟩])
 (.seq (.reg [⟨.t 9, .p (.mv), [.l 0], none, 0, 0⟩, ⟨.t 10, .p (.nilc), [.t 9], none, 0, 0⟩, ⟨.t 11, .r (.load true 7), [.t 10], none, 0, 0⟩, ⟨.l 7, .a (.alloc [(.int .i64 0), .nils, .nils, .nils, (.bool false), (.int .i64 0), (.int .i64 0)]), [], none, 0, 0⟩, ⟨.no, .e (.store 7), [.l 7, .t 11], none, 0, 0⟩])
 (.seq (.seq (.reg [⟨.t 12, .p (.fa 0), [.l 4], none, 0, 0⟩, ⟨.l 13, .r (.load false 1), [.t 12], none, 0, 0⟩])
 (.block 0 (.seq (.reg [⟨.t 15, .p (.bin .eql), [.l 13, .c (.int .i64 1)], none, 0, 0⟩, ⟨.l 14, .p (.mv), [.t 15], none, 0, 0⟩])
 (.cond (.l 14) (.seq (.reg [⟨.t 16, .p (.mv), [.l 0], none, 0, 0⟩, ⟨.t 17, .p (.nilc), [.t 16], none, 0, 0⟩, ⟨.t 18, .p (.fa 1), [.t 17], none, 0, 0⟩, ⟨.t 19, .r (.load false 1), [.t 18], none, 0, 0⟩, ⟨.t 20, .call 325, [.t 19], none, 0, 0⟩, ⟨.l 8, .p (.mv), [.t 20], none, 0, 0⟩])
 (.seq (.block 1 (.loop (.seq (.seq (.reg [⟨.t 21, .p (.mv), [.l 8], none, 0, 0⟩, ⟨.t 22, .p (.leng .sl), [.t 21], none, 0, 0⟩, ⟨.t 23, .p (.fa 1), [.l 4], none, 0, 0⟩, ⟨.t 24, .r (.load false 1), [.t 23], none, 0, 0⟩, ⟨.l 25, .p (.bin .leq), [.t 22, .t 24], none, 0, 0⟩])
 (.cond (.l 25) .skip
 (.exit 1)))
 (.block 2 (.reg [⟨.t 26, .p (.mv), [.l 8], none, 0, 0⟩, ⟨.t 27, .a (.bslice [(.int .i64 0)] 1 1 [(0, 1)]), [.c (.int .i64 0)], none, 0, 0⟩, ⟨.t 28, .e (.append 1 8 none), [.t 26, .t 27], none, 0, 0⟩, ⟨.l 8, .p (.mv), [.t 28], none, 0, 0⟩])))))
 (.seq (.reg [⟨.t 29, .p (.mv), [.l 8], none, 0, 0⟩, ⟨.t 30, .p (.fa 1), [.l 4], none, 0, 0⟩, ⟨.t 31, .r (.load false 1), [.t 30], none, 0, 0⟩, ⟨.t 32, .p (.mv), [.l 2], none, 0, 0⟩, ⟨.t 33, .p (.ixsl 1), [.t 29, .t 31], none, 0, 0⟩, ⟨.no, .e (.store 1), [.t 33, .t 32], none, 0, 0⟩])
 (.reg [⟨.t 34, .p (.mv), [.l 8], none, 0, 0⟩, ⟨.t 35, .call 317, [.t 34], none, 0, 0⟩, ⟨.t 36, .p (.fa 1), [.l 7], none, 0, 0⟩, ⟨.no, .e (.store 1), [.t 36, .t 35], none, 0, 0⟩]))))
 (.seq (.reg [⟨.t 38, .p (.bin .eql), [.l 13, .c (.int .i64 2)], none, 0, 0⟩, ⟨.l 37, .p (.mv), [.t 38], none, 0, 0⟩])
 (.cond (.l 37) (.seq (.reg [⟨.t 39, .p (.mv), [.l 0], none, 0, 0⟩, ⟨.t 40, .p (.nilc), [.t 39], none, 0, 0⟩, ⟨.t 41, .p (.fa 2), [.t 40], none, 0, 0⟩, ⟨.t 42, .r (.load false 1), [.t 41], none, 0, 0⟩, ⟨.t 43, .call 325, [.t 42], none, 0, 0⟩, ⟨.t 44, .p (.fa 2), [.l 7], none, 0, 0⟩, ⟨.no, .e (.store 1), [.t 44, .t 43], none, 0, 0⟩])
 (.reg [⟨.t 45, .p (.fa 2), [.l 7], none, 0, 0⟩, ⟨.t 46, .r (.load false 1), [.t 45], none, 0, 0⟩, ⟨.t 47, .p (.fa 1), [.l 4], none, 0, 0⟩, ⟨.t 48, .r (.load false 1), [.t 47], none, 0, 0⟩, ⟨.t 49, .p (.mv), [.l 2], none, 0, 0⟩, ⟨.t 50, .p (.ixsl 1), [.t 46, .t 48], none, 0, 0⟩, ⟨.no, .e (.store 1), [.t 50, .t 49], none, 0, 0⟩]))
 .skip))))))
 (.seq (.reg [⟨.l 6, .p (.mv), [.l 7], none, 0, 0⟩])
 .ret)))),
 [.tmp (.l 6)]⟩
theorem cf323_ok : compF TP Tryz.f323 = some cf323 := by kernel_rfl
def cf325 : CF := ⟨1, (.seq (.reg [⟨.l 2, .p (.mv), [.c .nils], none, 0, 0⟩])
 (.seq (.seq (.reg [⟨.t 3, .p (.mv), [.l 0], none, 0, 0⟩, ⟨.l 4, .p (.eqd .s false), [.t 3, .c .nils], none, 0, 0⟩])
 (.cond (.l 4) (.seq (.reg [⟨.l 2, .p (.mv), [.c .nils], none, 0, 0⟩])
 .ret)
 .skip))
 (.seq (.reg [⟨.t 5, .a (.bslice [(.int .i64 0)] 0 1 []), [], none, 0, 0⟩, ⟨.t 6, .p (.mv), [.l 0], none, 0, 0⟩, ⟨.t 7, .e (.append 1 8 none), [.t 5, .t 6], none, 0, 0⟩, ⟨.l 2, .p (.mv), [.t 7], none, 0, 0⟩])
 .ret))),
 [.tmp (.l 2)]⟩
theorem cf325_ok : compF TP Tryz.f325 = some cf325 := by kernel_rfl
def cf326 : CF := ⟨2, (.seq (.reg [⟨.l 2, .a (.box), [.l 0], none, 0, 0⟩, ⟨.l 3, .a (.box), [.l 1], none, 0, 0⟩, ⟨.l 4, .p (.mv), [.c .nilf], none, 0, 0⟩])
 (.seq (.reg [⟨.t 5, .p (.mkf (.func 407) 0), [.l 2, .l 3], none, 0, 0⟩, ⟨.l 4, .p (.mv), [.t 5], none, 0, 0⟩])
 .ret)),
 [.tmp (.l 4)]⟩
theorem cf326_ok : compF TP Tryz.f326 = some cf326 := by kernel_rfl
def cf327 : CF := ⟨1, (.seq (.reg [⟨.t 3, .p (.mv), [.l 0], none, 0, 0⟩, ⟨.t 4, .p (.leng .sl), [.t 3], none, 0, 0⟩, ⟨.l 2, .p (.mv), [.t 4], none, 0, 0⟩])
 (.reg [⟨.t 5, .p (.mv), [.l 0], none, 0, 0⟩, ⟨.t 6, .p (.mv), [.l 2], none, 0, 0⟩, ⟨.t 7, .p (.mv), [.l 2], none, 0, 0⟩, ⟨.t 8, .p (.toInt .u64), [.t 7], none, 0, 0⟩, ⟨.t 9, .call 409, [.t 8], none, 0, 0⟩, ⟨.t 10, .call 408, [.t 5, .c (.int .i64 0), .t 6, .t 9], none, 0, 0⟩])),
 []⟩
theorem cf327_ok : compF TP Tryz.f327 = some cf327 := by kernel_rfl
def cf328 : CF := ⟨1, (.seq (.reg [⟨.l 2, .p (.mv), [.c .nils], none, 0, 0⟩])
 (.seq (.seq (.reg [⟨.t 6, .p (.mv), [.l 0], none, 0, 0⟩, ⟨.t 7, .p (.leng .sl), [.t 6], none, 0, 0⟩, ⟨.l 8, .p (.bin .lss), [.t 7, .c (.int .i64 2)], none, 0, 0⟩])
 (.cond (.l 8) (.seq (.reg [⟨.t 9, .p (.mv), [.l 0], none, 0, 0⟩, ⟨.l 2, .p (.mv), [.t 9], none, 0, 0⟩])
 .ret)
 .skip))
 (.seq (.seq (.reg [⟨.l 3, .p (.mv), [.c (.int .i64 1)], none, 0, 0⟩])
 (.block 0 (.loop (.seq (.seq (.reg [⟨.t 10, .p (.mv), [.l 3], none, 0, 0⟩, ⟨.t 11, .p (.mv), [.l 0], none, 0, 0⟩, ⟨.t 12, .p (.leng .sl), [.t 11], none, 0, 0⟩, ⟨.l 13, .p (.bin .lss), [.t 10, .t 12], none, 0, 0⟩])
 (.cond (.l 13) .skip
 (.exit 0)))
 (.seq (.block 1 (.seq (.regD [⟨.t 16, .p (.mv), [.l 0], none, 0, 0⟩, ⟨.t 17, .p (.mv), [.l 3], none, 0, 0⟩, ⟨.t 18, .p (.ixsl 1), [.t 16, .t 17], none, 0, 0⟩, ⟨.t 19, .r (.load false 1), [.t 18], none, 0, 0⟩, ⟨.t 20, .p (.mv), [.l 0], none, 0, 0⟩, ⟨.t 21, .p (.mv), [.l 3], none, 0, 0⟩, ⟨.t 22, .p (.bin .sub), [.t 21, .c (.int .i64 1)], none, 0, 0⟩, ⟨.t 23, .p (.ixsl 1), [.t 20, .t 22], none, 0, 0⟩, ⟨.t 24, .r (.load false 1), [.t 23], none, 0, 0⟩, ⟨.l 25, .p (.bin .eql), [.t 19, .t 24], none, 0, 0⟩])
 (.cond (.l 25) (.seq (.reg [⟨.t 26, .p (.mv), [.l 0], none, 0, 0⟩, ⟨.t 27, .p (.mv), [.l 3], none, 0, 0⟩, ⟨.t 28, .p (.slc (.sl 1) true false false), [.t 26, .t 27], none, 0, 0⟩, ⟨.l 4, .p (.mv), [.t 28], none, 0, 0⟩])
 (.seq (.seq (.reg [⟨.l 5, .p (.mv), [.c (.int .i64 1)], none, 0, 0⟩])
 (.block 2 (.loop (.seq (.seq (.reg [⟨.t 29, .p (.mv), [.l 5], none, 0, 0⟩, ⟨.t 30, .p (.mv), [.l 4], none, 0, 0⟩, ⟨.t 31, .p (.leng .sl), [.t 30], none, 0, 0⟩, ⟨.l 32, .p (.bin .lss), [.t 29, .t 31], none, 0, 0⟩])
 (.cond (.l 32) .skip
 (.exit 2)))
 (.seq (.block 3 (.seq (.regD [⟨.t 35, .p (.mv), [.l 4], none, 0, 0⟩, ⟨.t 36, .p (.mv), [.l 5], none, 0, 0⟩, ⟨.t 37, .p (.ixsl 1), [.t 35, .t 36], none, 0, 0⟩, ⟨.t 38, .r (.load false 1), [.t 37], none, 0, 0⟩, ⟨.t 39, .p (.mv), [.l 4], none, 0, 0⟩, ⟨.t 40, .p (.mv), [.l 5], none, 0, 0⟩, ⟨.t 41, .p (.bin .sub), [.t 40, .c (.int .i64 1)], none, 0, 0⟩, ⟨.t 42, .p (.ixsl 1), [.t 39, .t 41], none, 0, 0⟩, ⟨.t 43, .r (.load false 1), [.t 42], none, 0, 0⟩, ⟨.l 44, .p (.bin .neq), [.t 38, .t 43], none, 0, 0⟩])
 (.cond (.l 44) (.seq (.reg [⟨.t 45, .p (.mv), [.l 0], none, 0, 0⟩, ⟨.t 46, .p (.mv), [.l 3], none, 0, 0⟩, ⟨.t 47, .p (.mv), [.l 4], none, 0, 0⟩, ⟨.t 48, .p (.mv), [.l 5], none, 0, 0⟩, ⟨.t 49, .p (.ixsl 1), [.t 47, .t 48], none, 0, 0⟩, ⟨.t 50, .r (.load false 1), [.t 49], none, 0, 0⟩, ⟨.t 51, .p (.ixsl 1), [.t 45, .t 46], none, 0, 0⟩, ⟨.no, .e (.store 1), [.t 51, .t 50], none, 0, 0⟩])
 (.reg [⟨.t 52, .p (.mv), [.l 3], none, 0, 0⟩, ⟨.t 53, .p (.bin .add), [.t 52, .c (.int .i64 1)], none, 0, 0⟩, ⟨.l 3, .p (.mv), [.t 53], none, 0, 0⟩]))
 .skip)))
 (.reg [⟨.t 33, .p (.mv), [.l 5], none, 0, 0⟩, ⟨.t 34, .p (.bin .add), [.t 33, .c (.int .i64 1)], none, 0, 0⟩, ⟨.l 5, .p (.mv), [.t 34], none, 0, 0⟩]))))))
 (.seq (.reg [⟨.t 54, .p (.mv), [.l 0], none, 0, 0⟩, ⟨.t 55, .p (.mv), [.l 3], none, 0, 0⟩, ⟨.t 56, .p (.slc (.sl 1) true false false), [.t 54, .t 55], none, 0, 0⟩, ⟨.no, .e (.clear [(.int .i64 0)]), [.t 56], none, 0, 0⟩])
 (.seq (.reg [⟨.t 57, .p (.mv), [.l 0], none, 0, 0⟩, ⟨.t 58, .p (.mv), [.l 3], none, 0, 0⟩, ⟨.t 59, .p (.slc (.sl 1) false true false), [.t 57, .t 58], none, 0, 0⟩, ⟨.l 2, .p (.mv), [.t 59], none, 0, 0⟩])
 .ret))))
 .skip)))
 (.reg [⟨.t 14, .p (.mv), [.l 3], none, 0, 0⟩, ⟨.t 15, .p (.bin .add), [.t 14, .c (.int .i64 1)], none, 0, 0⟩, ⟨.l 3, .p (.mv), [.t 15], none, 0, 0⟩]))))))
 (.seq (.reg [⟨.t 60, .p (.mv), [.l 0], none, 0, 0⟩, ⟨.l 2, .p (.mv), [.t 60], none, 0, 0⟩])
 .ret)))),
 [.tmp (.l 2)]⟩
theorem cf328_ok : compF TP Tryz.f328 = some cf328 := by kernel_rfl
def cf329 : CF := ⟨2, (.seq (.reg [⟨.l 4, .p (.mv), [.c (.int .i64 0)], none, 0, 0⟩])
 (.seq (.seq (.reg [⟨.t 6, .p (.mv), [.l 0], none, 0, 0⟩, ⟨.l 7, .p (.leng .sl), [.t 6], none, 0, 0⟩, ⟨.l 8, .p (.mv), [.c (.int .i64 0)], none, 0, 0⟩])
 (.block 0 (.loop (.seq (.reg [⟨.l 9, .p (.bin .lss), [.l 8, .l 7], none, 0, 0⟩])
 (.seq (.cond (.l 9) .skip
 (.exit 0))
 (.seq (.block 1 (.seq (.reg [⟨.t 10, .p (.mv), [.l 8], none, 0, 0⟩, ⟨.l 5, .p (.mv), [.t 10], none, 0, 0⟩])
 (.seq (.reg [⟨.t 11, .p (.mv), [.l 1], none, 0, 0⟩, ⟨.t 12, .p (.mv), [.l 0], none, 0, 0⟩, ⟨.t 13, .p (.mv), [.l 5], none, 0, 0⟩, ⟨.t 14, .p (.ixsl 2), [.t 12, .t 13], none, 0, 0⟩, ⟨.t 15, .r (.load true 2), [.t 14], none, 0, 0⟩, ⟨.l 16, .callv, [.t 11, .t 15], none, 0, 0⟩])
 (.cond (.l 16) (.seq (.reg [⟨.t 17, .p (.mv), [.l 5], none, 0, 0⟩, ⟨.l 4, .p (.mv), [.t 17], none, 0, 0⟩])
 .ret)
 .skip))))
 (.reg [⟨.t 18, .p (.bin .add), [.l 8, .c (.int .i64 1)], none, 0, 0⟩, ⟨.l 8, .p (.mv), [.t 18], none, 0, 0⟩])))))))
 (.seq (.reg [⟨.l 4, .p (.mv), [.c (.int .i64 (-1))], none, 0, 0⟩])
 .ret))),
 [.tmp (.l 4)]⟩
theorem cf329_ok : compF TP Tryz.f329 = some cf329 := by kernel_rfl
def cf330 : CF := ⟨1, (.seq (.reg [⟨.l 2, .p (.mv), [.c (.bool false)], none, 0, 0⟩])
 (.seq (.reg [⟨.t 6, .p (.mv), [.l 0], none, 0, 0⟩, ⟨.t 7, .call 37, [], none, 0, 0⟩, ⟨.t 8, .p (.bin .eql), [.t 6, .t 7], none, 0, 0⟩, ⟨.l 3, .p (.mv), [.t 8], none, 0, 0⟩])
 (.seq (.reg [⟨.t 10, .p (.mv), [.l 0], none, 0, 0⟩, ⟨.t 11, .call 187, [.t 10], none, 0, 0⟩, ⟨.t 9, .p (.mv), [.t 11], none, 0, 0⟩, ⟨.t 12, .p (.ext 0), [.t 9], none, 0, 0⟩, ⟨.t 13, .p (.ext 1), [.t 9], none, 0, 0⟩, ⟨.t 4, .p (.mv), [.t 12], none, 0, 0⟩, ⟨.l 5, .p (.mv), [.t 13], none, 0, 0⟩])
 (.seq (.reg [⟨.t 14, .p (.mv), [.l 3], none, 0, 0⟩, ⟨.t 15, .p (.mv), [.t 14], none, 0, 0⟩, ⟨.t 16, .p (.mv), [.l 5], (some (.t 15, false)), 0, 0⟩, ⟨.t 17, .p (.pick), [.t 15, .c (.bool true), .t 16], none, 0, 0⟩, ⟨.l 3, .p (.mv), [.t 17], none, 0, 0⟩])
 (.seq (.reg [⟨.t 19, .p (.mv), [.l 0], none, 0, 0⟩, ⟨.t 20, .call 188, [.t 19], none, 0, 0⟩, ⟨.t 18, .p (.mv), [.t 20], none, 0, 0⟩, ⟨.t 21, .p (.ext 0), [.t 18], none, 0, 0⟩, ⟨.t 22, .p (.ext 1), [.t 18], none, 0, 0⟩, ⟨.l 5, .p (.mv), [.t 22], none, 0, 0⟩])
 (.seq (.reg [⟨.t 23, .p (.mv), [.l 3], none, 0, 0⟩, ⟨.t 24, .p (.mv), [.t 23], none, 0, 0⟩, ⟨.t 25, .p (.mv), [.l 5], (some (.t 24, false)), 0, 0⟩, ⟨.t 26, .p (.pick), [.t 24, .c (.bool true), .t 25], none, 0, 0⟩, ⟨.l 3, .p (.mv), [.t 26], none, 0, 0⟩])
 (.seq (.reg [⟨.t 28, .p (.mv), [.l 0], none, 0, 0⟩, ⟨.t 29, .call 189, [.t 28], none, 0, 0⟩, ⟨.t 27, .p (.mv), [.t 29], none, 0, 0⟩, ⟨.t 30, .p (.ext 0), [.t 27], none, 0, 0⟩, ⟨.t 31, .p (.ext 1), [.t 27], none, 0, 0⟩, ⟨.t 32, .p (.ext 2), [.t 27], none, 0, 0⟩, ⟨.l 5, .p (.mv), [.t 32], none, 0, 0⟩])
 (.seq (.reg [⟨.t 33, .p (.mv), [.l 3], none, 0, 0⟩, ⟨.t 34, .p (.mv), [.t 33], none, 0, 0⟩, ⟨.t 35, .p (.mv), [.l 5], (some (.t 34, false)), 0, 0⟩, ⟨.t 36, .p (.pick), [.t 34, .c (.bool true), .t 35], none, 0, 0⟩, ⟨.l 3, .p (.mv), [.t 36], none, 0, 0⟩])
 (.seq (.reg [⟨.t 38, .p (.mv), [.l 0], none, 0, 0⟩, ⟨.t 39, .call 263, [.t 38], none, 0, 0⟩, ⟨.t 37, .p (.mv), [.t 39], none, 0, 0⟩, ⟨.t 40, .p (.ext 0), [.t 37], none, 0, 0⟩, ⟨.t 41, .p (.ext 1), [.t 37], none, 0, 0⟩, ⟨.t 42, .p (.ext 2), [.t 37], none, 0, 0⟩, ⟨.l 5, .p (.mv), [.t 42], none, 0, 0⟩])
 (.seq (.reg [⟨.t 43, .p (.mv), [.l 3], none, 0, 0⟩, ⟨.t 44, .p (.mv), [.t 43], none, 0, 0⟩, ⟨.t 45, .p (.mv), [.l 5], (some (.t 44, false)), 0, 0⟩, ⟨.t 46, .p (.pick), [.t 44, .c (.bool true), .t 45], none, 0, 0⟩, ⟨.l 2, .p (.mv), [.t 46], none, 0, 0⟩])
 .ret)))))))))),
 [.tmp (.l 2)]⟩
theorem cf330_ok : compF TP Tryz.f330 = some cf330 := by kernel_rfl
def cf331 : CF := ⟨2, (.seq (.reg [⟨.l 2, .a (.box), [.l 0], none, 0, 0⟩, ⟨.l 4, .p (.mv), [.c (.bool false)], none, 0, 0⟩])
 (.seq (.seq (.reg [⟨.t 7, .r (.load true 3), [.l 2], none, 0, 0⟩, ⟨.t 8, .call 410, [.t 7], none, 0, 0⟩, ⟨.l 9, .p (.un .not), [.t 8], none, 0, 0⟩])
 (.cond (.l 9) (.seq (.reg [⟨.l 4, .p (.mv), [.c (.bool false)], none, 0, 0⟩])
 .ret)
 .skip))
 (.seq (.regD [⟨.t 10, .p (.fa 0), [.l 2], none, 0, 0⟩, ⟨.t 11, .r (.load false 1), [.t 10], none, 0, 0⟩, ⟨.t 13, .p (.fa 1), [.l 2], none, 0, 1⟩, ⟨.t 14, .r (.load false 1), [.t 13], none, 0, 1⟩, ⟨.l 5, .a (.alloc [.nils]), [], none, 0, 2⟩, ⟨.l 6, .a (.alloc [.nils]), [], none, 0, 2⟩, ⟨.t 12, .call 411, [.t 11], none, 0, 1⟩, ⟨.t 15, .call 411, [.t 14], none, 1, 2⟩, ⟨.no, .e (.store 1), [.l 5, .t 12], none, 2, 3⟩, ⟨.no, .e (.store 1), [.l 6, .t 15], none, 3, 4⟩])
 (.seq (.reg [⟨.t 16, .p (.mv), [.l 1], none, 0, 0⟩, ⟨.t 17, .p (.mkf (.func 412) 0), [.l 2, .l 5, .l 6], none, 0, 0⟩, ⟨.t 18, .call 193, [.t 16, .t 17], none, 0, 0⟩, ⟨.t 19, .p (.un .not), [.t 18], none, 0, 0⟩, ⟨.l 4, .p (.mv), [.t 19], none, 0, 0⟩])
 .ret)))),
 [.tmp (.l 4)]⟩
theorem cf331_ok : compF TP Tryz.f331 = some cf331 := by kernel_rfl
def cf332 : CF := ⟨2, (.seq (.reg [⟨.l 2, .a (.box), [.l 0], none, 0, 0⟩, ⟨.l 4, .p (.mv), [.c .nils], none, 0, 0⟩])
 (.seq (.reg [⟨.l 5, .p (.mv), [.c .nils], none, 0, 0⟩])
 (.seq (.seq (.reg [⟨.l 16, .p (.mv), [.l 1], none, 0, 0⟩, ⟨.l 17, .p (.leng .sl), [.l 16], none, 0, 0⟩, ⟨.l 18, .p (.mv), [.c (.int .i64 0)], none, 0, 0⟩])
 (.block 0 (.loop (.seq (.reg [⟨.l 19, .p (.bin .lss), [.l 18, .l 17], none, 0, 0⟩])
 (.seq (.cond (.l 19) .skip
 (.exit 0))
 (.seq (.block 1 (.seq (.reg [⟨.t 20, .p (.ixsl 1), [.l 16, .l 18], none, 0, 0⟩, ⟨.t 21, .r (.load false 1), [.t 20], none, 0, 0⟩, ⟨.l 7, .p (.mv), [.t 21], none, 0, 0⟩])
 (.reg [⟨.t 22, .p (.mv), [.l 5], none, 0, 0⟩, ⟨.t 23, .r (.load false 1), [.l 2], none, 0, 0⟩, ⟨.t 24, .p (.mv), [.l 7], none, 0, 0⟩, ⟨.t 25, .call 414, [.t 23, .t 24], none, 0, 0⟩, ⟨.t 26, .a (.bslice [(.int .u64 0)] 1 1 [(0, 1)]), [.t 25], none, 0, 0⟩, ⟨.t 27, .e (.append 1 8 none), [.t 22, .t 26], none, 0, 0⟩, ⟨.l 5, .p (.mv), [.t 27], none, 0, 0⟩])))
 (.reg [⟨.t 28, .p (.bin .add), [.l 18, .c (.int .i64 1)], none, 0, 0⟩, ⟨.l 18, .p (.mv), [.t 28], none, 0, 0⟩])))))))
 (.seq (.seq (.reg [⟨.l 8, .p (.mv), [.c (.int .i64 0)], none, 0, 0⟩])
 (.block 2 (.loop (.seq (.seq (.reg [⟨.t 29, .p (.mv), [.l 8], none, 0, 0⟩, ⟨.t 30, .r (.load false 1), [.l 2], none, 0, 0⟩, ⟨.t 31, .p (.nilc), [.t 30], none, 0, 0⟩, ⟨.t 32, .p (.fa 8), [.t 31], none, 0, 0⟩, ⟨.t 33, .r (.load false 1), [.t 32], none, 0, 0⟩, ⟨.t 34, .p (.leng .sl), [.t 33], none, 0, 0⟩, ⟨.l 35, .p (.bin .lss), [.t 29, .t 34], none, 0, 0⟩])
 (.cond (.l 35) .skip
 (.exit 2)))
 (.seq (.block 3 (.seq (.reg [⟨.t 39, .r (.load false 1), [.l 2], none, 0, 0⟩, ⟨.t 40, .p (.nilc), [.t 39], none, 0, 0⟩, ⟨.t 41, .p (.fa 8), [.t 40], none, 0, 0⟩, ⟨.t 42, .r (.load false 1), [.t 41], none, 0, 0⟩, ⟨.t 43, .p (.mv), [.l 8], none, 0, 0⟩, ⟨.t 44, .p (.ixsl 1), [.t 42, .t 43], none, 0, 0⟩, ⟨.t 45, .r (.load false 1), [.t 44], none, 0, 0⟩, ⟨.t 46, .call 189, [.t 45], none, 0, 0⟩, ⟨.t 38, .p (.mv), [.t 46], none, 0, 0⟩, ⟨.t 47, .p (.ext 0), [.t 38], none, 0, 0⟩, ⟨.t 48, .p (.ext 1), [.t 38], none, 0, 0⟩, ⟨.t 49, .p (.ext 2), [.t 38], none, 0, 0⟩, ⟨.l 9, .a (.alloc [(.bool false)]), [], none, 0, 0⟩, ⟨.l 10, .a (.alloc [(.int .i64 0)]), [], none, 0, 0⟩, ⟨.no, .e (.store 1), [.l 9, .t 47], none, 0, 0⟩, ⟨.no, .e (.store 1), [.l 10, .t 48], none, 0, 0⟩, ⟨.t 11, .p (.mv), [.t 49], none, 0, 0⟩])
 (.seq (.regD [⟨.t 51, .r (.load false 1), [.l 2], none, 0, 0⟩, ⟨.t 52, .p (.nilc), [.t 51], none, 0, 0⟩, ⟨.t 53, .p (.fa 0), [.t 52], none, 0, 0⟩, ⟨.t 54, .r (.load true 3), [.t 53], none, 0, 0⟩, ⟨.t 55, .r (.load false 1), [.l 9], none, 0, 0⟩, ⟨.t 57, .r (.load false 1), [.l 10], none, 0, 1⟩, ⟨.l 12, .a (.alloc [.nils]), [], none, 0, 2⟩, ⟨.t 56, .call 413, [.t 54, .t 55], none, 0, 1⟩, ⟨.t 58, .call 415, [.t 56, .t 57], none, 1, 2⟩, ⟨.t 50, .p (.mv), [.t 58], none, 2, 2⟩, ⟨.t 59, .p (.ext 0), [.t 50], none, 2, 2⟩, ⟨.t 60, .p (.ext 1), [.t 50], none, 2, 3⟩, ⟨.no, .e (.store 1), [.l 12, .t 59], none, 2, 3⟩, ⟨.l 13, .p (.mv), [.t 60], none, 3, 3⟩])
 (.seq (.reg [⟨.t 61, .r (.load false 1), [.l 12], none, 0, 0⟩, ⟨.t 62, .p (.mv), [.l 13], none, 0, 0⟩, ⟨.l 63, .call 416, [.t 61, .t 62], none, 0, 0⟩])
 (.block 4 (.rangeF (.l 63) [.l 64, .l 65] (.seq (.reg [⟨.l 14, .p (.mv), [.l 64], none, 0, 0⟩])
 (.reg [⟨.l 15, .p (.mv), [.l 65], none, 0, 0⟩])) (.block 5 (.seq (.reg [⟨.t 66, .r (.load false 1), [.l 2], none, 0, 0⟩, ⟨.t 67, .p (.mv), [.l 15], none, 0, 0⟩, ⟨.t 68, .call 414, [.t 66, .t 67], none, 0, 0⟩, ⟨.l 15, .p (.mv), [.t 68], none, 0, 0⟩])
 (.seq (.regD [⟨.t 70, .r (.load false 1), [.l 2], none, 0, 0⟩, ⟨.t 71, .p (.nilc), [.t 70], none, 0, 0⟩, ⟨.t 72, .p (.fa 0), [.t 71], none, 0, 0⟩, ⟨.t 73, .r (.load true 3), [.t 72], none, 0, 0⟩, ⟨.t 74, .r (.load false 1), [.l 9], none, 0, 0⟩, ⟨.t 76, .r (.load false 1), [.l 10], none, 0, 1⟩, ⟨.t 75, .call 413, [.t 73, .t 74], none, 0, 1⟩, ⟨.t 77, .call 415, [.t 75, .t 76], none, 1, 2⟩, ⟨.t 69, .p (.mv), [.t 77], none, 2, 2⟩, ⟨.t 78, .p (.ext 0), [.t 69], none, 2, 2⟩, ⟨.t 79, .p (.ext 1), [.t 69], none, 2, 3⟩, ⟨.no, .e (.store 1), [.l 12, .t 78], none, 2, 3⟩])
 (.reg [⟨.t 80, .r (.load false 1), [.l 12], none, 0, 0⟩, ⟨.t 81, .p (.mv), [.l 14], none, 0, 0⟩, ⟨.t 82, .p (.mv), [.l 15], none, 0, 0⟩, ⟨.t 83, .p (.ixsl 1), [.t 80, .t 81], none, 0, 0⟩, ⟨.no, .e (.store 1), [.t 83, .t 82], none, 0, 0⟩]))))))))))
 (.reg [⟨.t 36, .p (.mv), [.l 8], none, 0, 0⟩, ⟨.t 37, .p (.bin .add), [.t 36, .c (.int .i64 1)], none, 0, 0⟩, ⟨.l 8, .p (.mv), [.t 37], none, 0, 0⟩]))))))
 (.seq (.reg [⟨.t 84, .p (.mv), [.l 5], none, 0, 0⟩, ⟨.l 4, .p (.mv), [.t 84], none, 0, 0⟩])
 .ret))))),
 [.tmp (.l 4)]⟩
theorem cf332_ok : compF TP Tryz.f332 = some cf332 := by kernel_rfl
def cf333 : CF := ⟨2, (.seq (.reg [⟨.l 4, .a (.alloc [.nils, .nils, (.int .i64 0)]), [], none, 0, 0⟩, ⟨.l 5, .p (.mv), [.c .nils], none, 0, 0⟩, ⟨.l 6, .p (.mv), [.c (.int .i64 0)], none, 0, 0⟩])
 (.seq (.reg [⟨.t 7, .p (.mv), [.l 0], none, 0, 0⟩, ⟨.t 8, .p (.nilc), [.t 7], none, 0, 0⟩, ⟨.t 9, .p (.fa 0), [.t 8], none, 0, 0⟩, ⟨.t 10, .r (.load true 3), [.t 9], none, 0, 0⟩, ⟨.t 11, .p (.mv), [.l 1], none, 0, 0⟩, ⟨.no, .e (.store 3), [.l 4, .t 10], none, 0, 0⟩, ⟨.l 5, .p (.mv), [.t 11], none, 0, 0⟩, ⟨.l 6, .p (.mv), [.c (.int .i64 0)], none, 0, 0⟩])
 .ret)),
 [.cell (.l 4) true 3, .tmp (.l 5), .tmp (.l 6)]⟩
theorem cf333_ok : compF TP Tryz.f333 = some cf333 := by kernel_rfl
def cf334 : CF := ⟨1, (.seq (.reg [⟨.l 2, .a (.alloc [.nils, .nils]), [], none, 0, 0⟩, ⟨.l 3, .p (.mv), [.c (.bool false)], none, 0, 0⟩])
 (.seq (.reg [⟨.t 10, .p (.mv), [.l 0], none, 0, 0⟩, ⟨.t 11, .p (.mv), [.l 0], none, 0, 0⟩, ⟨.t 12, .p (.leng .sl), [.t 11], none, 0, 0⟩, ⟨.t 13, .a (.mks [(.bool false)] 1), [.t 12, .t 12], none, 0, 0⟩, ⟨.t 14, .p (.build [.nils, .nils] [(0, 1), (1, 1)]), [.t 10, .t 13], none, 0, 0⟩, ⟨.l 4, .a (.alloc [.nils, .nils]), [], none, 0, 0⟩, ⟨.no, .e (.store 2), [.l 4, .t 14], none, 0, 0⟩])
 (.seq (.seq (.reg [⟨.l 5, .p (.mv), [.c (.int .i64 0)], none, 0, 0⟩])
 (.block 0 (.loop (.seq (.seq (.reg [⟨.t 15, .p (.mv), [.l 5], none, 0, 0⟩, ⟨.t 16, .p (.mv), [.l 0], none, 0, 0⟩, ⟨.t 17, .p (.leng .sl), [.t 16], none, 0, 0⟩, ⟨.l 18, .p (.bin .lss), [.t 15, .t 17], none, 0, 0⟩])
 (.cond (.l 18) .skip
 (.exit 0)))
 (.block 1 (.seq (.reg [⟨.t 19, .p (.fa 1), [.l 4], none, 0, 0⟩, ⟨.t 20, .r (.load false 1), [.t 19], none, 0, 0⟩, ⟨.t 21, .p (.mv), [.l 5], none, 0, 0⟩, ⟨.t 22, .p (.ixsl 1), [.t 20, .t 21], none, 0, 0⟩, ⟨.no, .e (.store 1), [.t 22, .c (.bool true)], none, 0, 0⟩])
 (.seq (.reg [⟨.l 6, .p (.mv), [.c (.int .i64 2)], none, 0, 0⟩])
 (.seq (.seq (.reg [⟨.t 23, .p (.mv), [.l 0], none, 0, 0⟩, ⟨.t 24, .p (.mv), [.l 5], none, 0, 0⟩, ⟨.t 25, .p (.ixsl 1), [.t 23, .t 24], none, 0, 0⟩, ⟨.t 26, .r (.load false 1), [.t 25], none, 0, 0⟩, ⟨.t 27, .call 192, [.t 26], none, 0, 0⟩, ⟨.l 28, .p (.bin .eql), [.t 27, .c (.int .i64 0)], none, 0, 0⟩])
 (.cond (.l 28) (.seq (.reg [⟨.t 30, .p (.mv), [.l 0], none, 0, 0⟩, ⟨.t 31, .p (.mv), [.l 5], none, 0, 0⟩, ⟨.t 32, .p (.ixsl 1), [.t 30, .t 31], none, 0, 0⟩, ⟨.t 33, .r (.load false 1), [.t 32], none, 0, 0⟩, ⟨.t 34, .call 263, [.t 33], none, 0, 0⟩, ⟨.t 29, .p (.mv), [.t 34], none, 0, 0⟩, ⟨.t 35, .p (.ext 0), [.t 29], none, 0, 0⟩, ⟨.t 36, .p (.ext 1), [.t 29], none, 0, 0⟩, ⟨.t 37, .p (.ext 2), [.t 29], none, 0, 0⟩, ⟨.t 7, .p (.mv), [.t 35], none, 0, 0⟩, ⟨.l 8, .p (.mv), [.t 36], none, 0, 0⟩, ⟨.l 9, .p (.mv), [.t 37], none, 0, 0⟩])
 (.seq (.seq (.reg [⟨.t 38, .p (.mv), [.l 9], none, 0, 0⟩, ⟨.l 39, .p (.un .not), [.t 38], none, 0, 0⟩])
 (.cond (.l 39) (.seq (.reg [⟨.t 40, .p (.build [.nils, .nils] []), [], none, 0, 0⟩, ⟨.no, .e (.store 2), [.l 2, .t 40], none, 0, 0⟩, ⟨.l 3, .p (.mv), [.c (.bool false)], none, 0, 0⟩])
 .ret)
 .skip))
 (.reg [⟨.t 41, .p (.mv), [.l 8], none, 0, 0⟩, ⟨.t 42, .p (.bin .add), [.c (.int .i64 1), .t 41], none, 0, 0⟩, ⟨.l 6, .p (.mv), [.t 42], none, 0, 0⟩])))
 .skip))
 (.seq (.seq (.reg [⟨.t 43, .p (.mv), [.l 6], none, 0, 0⟩, ⟨.t 44, .p (.mv), [.l 0], none, 0, 0⟩, ⟨.t 45, .p (.leng .sl), [.t 44], none, 0, 0⟩, ⟨.t 46, .p (.mv), [.l 5], none, 0, 0⟩, ⟨.t 47, .p (.bin .sub), [.t 45, .t 46], none, 0, 0⟩, ⟨.l 48, .p (.bin .gtr), [.t 43, .t 47], none, 0, 0⟩])
 (.cond (.l 48) (.seq (.reg [⟨.t 49, .p (.build [.nils, .nils] []), [], none, 0, 0⟩, ⟨.no, .e (.store 2), [.l 2, .t 49], none, 0, 0⟩, ⟨.l 3, .p (.mv), [.c (.bool false)], none, 0, 0⟩])
 .ret)
 .skip))
 (.reg [⟨.t 50, .p (.mv), [.l 5], none, 0, 0⟩, ⟨.t 51, .p (.mv), [.l 6], none, 0, 0⟩, ⟨.t 52, .p (.bin .add), [.t 50, .t 51], none, 0, 0⟩, ⟨.l 5, .p (.mv), [.t 52], none, 0, 0⟩]))))))))))
 (.seq (.reg [⟨.t 53, .r (.load true 2), [.l 4], none, 0, 0⟩, ⟨.no, .e (.store 2), [.l 2, .t 53], none, 0, 0⟩, ⟨.l 3, .p (.mv), [.c (.bool true)], none, 0, 0⟩])
 .ret)))),
 [.cell (.l 2) true 2, .tmp (.l 3)]⟩
theorem cf334_ok : compF TP Tryz.f334 = some cf334 := by kernel_rfl
def cf337 : CF := ⟨3, (.seq (.reg [⟨.l 6, .p (.mv), [.c (.bool false)], none, 0, 0⟩])
 (.seq (.seq (.reg [⟨.t 9, .p (.mv), [.l 0], none, 0, 0⟩, ⟨.t 10, .p (.leng .sl), [.t 9], none, 0, 0⟩, ⟨.t 11, .p (.mv), [.l 1], none, 0, 0⟩, ⟨.t 12, .p (.leng .sl), [.t 11], none, 0, 0⟩, ⟨.l 13, .p (.bin .neq), [.t 10, .t 12], none, 0, 0⟩])
 (.cond (.l 13) (.seq (.reg [⟨.l 6, .p (.mv), [.c (.bool false)], none, 0, 0⟩])
 .ret)
 .skip))
 (.seq (.seq (.reg [⟨.l 14, .p (.mv), [.l 0], none, 0, 0⟩, ⟨.l 15, .p (.leng .sl), [.l 14], none, 0, 0⟩, ⟨.l 16, .p (.mv), [.c (.int .i64 0)], none, 0, 0⟩])
 (.block 0 (.loop (.seq (.reg [⟨.l 17, .p (.bin .lss), [.l 16, .l 15], none, 0, 0⟩])
 (.seq (.cond (.l 17) .skip
 (.exit 0))
 (.seq (.block 1 (.seq (.reg [⟨.t 18, .p (.mv), [.l 16], none, 0, 0⟩, ⟨.t 19, .p (.ixsl 9), [.l 14, .l 16], none, 0, 0⟩, ⟨.t 20, .r (.load true 9), [.t 19], none, 0, 0⟩, ⟨.l 8, .a (.alloc [(.int .i64 0), (.int .i64 0), (.int .i64 0), (.str 0 0), (.str 0 0), (.int .i64 0), .nils, (.str 0 0), (.int .i64 0)]), [], none, 0, 0⟩, ⟨.l 7, .p (.mv), [.t 18], none, 0, 0⟩, ⟨.no, .e (.store 9), [.l 8, .t 20], none, 0, 0⟩])
 (.seq (.regD [⟨.t 21, .p (.mv), [.l 2], none, 0, 0⟩, ⟨.t 22, .r (.load true 9), [.l 8], none, 0, 0⟩, ⟨.t 23, .p (.mv), [.l 1], none, 0, 0⟩, ⟨.t 24, .p (.mv), [.l 7], none, 0, 0⟩, ⟨.t 25, .p (.ixsl 9), [.t 23, .t 24], none, 0, 0⟩, ⟨.t 26, .r (.load true 9), [.t 25], none, 0, 0⟩, ⟨.t 27, .callv, [.t 21, .t 22, .t 26], none, 0, 1⟩, ⟨.l 28, .p (.un .not), [.t 27], none, 1, 1⟩])
 (.cond (.l 28) (.seq (.reg [⟨.l 6, .p (.mv), [.c (.bool false)], none, 0, 0⟩])
 .ret)
 .skip))))
 (.reg [⟨.t 29, .p (.bin .add), [.l 16, .c (.int .i64 1)], none, 0, 0⟩, ⟨.l 16, .p (.mv), [.t 29], none, 0, 0⟩])))))))
 (.seq (.reg [⟨.l 6, .p (.mv), [.c (.bool true)], none, 0, 0⟩])
 .ret)))),
 [.tmp (.l 6)]⟩
theorem cf337_ok : compF TP Tryz.f337 = some cf337 := by kernel_rfl
def cf338 : CF := ⟨2, (.seq (.reg [⟨.l 4, .p (.mv), [.c (.int .i64 0)], none, 0, 0⟩])
 (.seq (.seq (.reg [⟨.t 6, .p (.mv), [.l 0], none, 0, 0⟩, ⟨.l 7, .p (.leng .sl), [.t 6], none, 0, 0⟩, ⟨.l 8, .p (.mv), [.c (.int .i64 0)], none, 0, 0⟩])
 (.block 0 (.loop (.seq (.reg [⟨.l 9, .p (.bin .lss), [.l 8, .l 7], none, 0, 0⟩])
 (.seq (.cond (.l 9) .skip
 (.exit 0))
 (.seq (.block 1 (.seq (.reg [⟨.t 10, .p (.mv), [.l 8], none, 0, 0⟩, ⟨.l 5, .p (.mv), [.t 10], none, 0, 0⟩])
 (.seq (.reg [⟨.t 11, .p (.mv), [.l 1], none, 0, 0⟩, ⟨.t 12, .p (.mv), [.l 0], none, 0, 0⟩, ⟨.t 13, .p (.mv), [.l 5], none, 0, 0⟩, ⟨.t 14, .p (.ixsl 9), [.t 12, .t 13], none, 0, 0⟩, ⟨.t 15, .r (.load true 9), [.t 14], none, 0, 0⟩, ⟨.l 16, .callv, [.t 11, .t 15], none, 0, 0⟩])
 (.cond (.l 16) (.seq (.reg [⟨.t 17, .p (.mv), [.l 5], none, 0, 0⟩, ⟨.l 4, .p (.mv), [.t 17], none, 0, 0⟩])
 .ret)
 .skip))))
 (.reg [⟨.t 18, .p (.bin .add), [.l 8, .c (.int .i64 1)], none, 0, 0⟩, ⟨.l 8, .p (.mv), [.t 18], none, 0, 0⟩])))))))
 (.seq (.reg [⟨.l 4, .p (.mv), [.c (.int .i64 (-1))], none, 0, 0⟩])
 .ret))),
 [.tmp (.l 4)]⟩
theorem cf338_ok : compF TP Tryz.f338 = some cf338 := by kernel_rfl
def cf340 : CF := ⟨2, (.seq (.reg [⟨.l 4, .p (.mv), [.c (.str 0 0)], none, 0, 0⟩, ⟨.l 5, .p (.mv), [.c (.bool false)], none, 0, 0⟩])
 (.seq (.seq (.reg [⟨.t 6, .p (.mv), [.l 0], none, 0, 0⟩, ⟨.t 7, .call 73, [.t 6], none, 0, 0⟩, ⟨.t 8, .p (.un .not), [.t 7], none, 0, 0⟩, ⟨.t 9, .p (.mv), [.t 8], none, 0, 0⟩, ⟨.t 10, .p (.mv), [.l 1], (some (.t 9, false)), 0, 0⟩, ⟨.t 11, .p (.bin .lss), [.t 10, .c (.int .i64 0)], (some (.t 9, false)), 0, 0⟩, ⟨.t 12, .p (.pick), [.t 9, .c (.bool true), .t 11], none, 0, 0⟩, ⟨.t 13, .p (.mv), [.t 12], none, 0, 0⟩, ⟨.t 14, .p (.mv), [.l 1], (some (.t 13, false)), 0, 0⟩, ⟨.t 15, .p (.mv), [.l 0], (some (.t 13, false)), 0, 0⟩, ⟨.t 16, .p (.nilc), [.t 15], (some (.t 13, false)), 0, 0⟩, ⟨.t 17, .p (.fa 1), [.t 16], (some (.t 13, false)), 0, 0⟩, ⟨.t 18, .r (.load false 1), [.t 17], (some (.t 13, false)), 0, 0⟩, ⟨.t 19, .p (.leng .sl), [.t 18], (some (.t 13, false)), 0, 0⟩, ⟨.t 20, .p (.bin .geq), [.t 14, .t 19], (some (.t 13, false)), 0, 0⟩, ⟨.l 21, .p (.pick), [.t 13, .c (.bool true), .t 20], none, 0, 0⟩])
 (.cond (.l 21) (.seq (.reg [⟨.l 4, .p (.mv), [.c (.str 0 0)], none, 0, 0⟩, ⟨.l 5, .p (.mv), [.c (.bool false)], none, 0, 0⟩])
 .ret)
 .skip))
 (.seq (.reg [⟨.t 22, .p (.mv), [.l 0], none, 0, 0⟩, ⟨.t 23, .p (.nilc), [.t 22], none, 0, 0⟩, ⟨.t 24, .p (.fa 1), [.t 23], none, 0, 0⟩, ⟨.t 25, .r (.load false 1), [.t 24], none, 0, 0⟩, ⟨.t 26, .p (.mv), [.l 1], none, 0, 0⟩, ⟨.t 27, .p (.ixsl 1), [.t 25, .t 26], none, 0, 0⟩, ⟨.t 28, .r (.load false 1), [.t 27], none, 0, 0⟩, ⟨.l 4, .p (.mv), [.t 28], none, 0, 0⟩, ⟨.l 5, .p (.mv), [.c (.bool true)], none, 0, 0⟩])
 .ret))),
 [.tmp (.l 4), .tmp (.l 5)]⟩
theorem cf340_ok : compF TP Tryz.f340 = some cf340 := by kernel_rfl
def cf341 : CF := ⟨1, (.seq (.reg [⟨.l 2, .p (.mv), [.c (.bool false)], none, 0, 0⟩])
 (.seq (.reg [⟨.t 3, .p (.mv), [.l 0], none, 0, 0⟩, ⟨.t 4, .p (.mv), [.l 0], none, 0, 0⟩, ⟨.t 5, .p (.bin .neq), [.t 3, .t 4], none, 0, 0⟩, ⟨.l 2, .p (.mv), [.t 5], none, 0, 0⟩])
 .ret)),
 [.tmp (.l 2)]⟩
theorem cf341_ok : compF TP Tryz.f341 = some cf341 := by kernel_rfl
def cf342 : CF := ⟨3, (.seq (.reg [⟨.l 6, .p (.mv), [.c (.int .i64 0)], none, 0, 0⟩])
 (.seq (.seq (.reg [⟨.t 9, .p (.mv), [.l 0], none, 0, 0⟩, ⟨.l 10, .p (.leng .sl), [.t 9], none, 0, 0⟩, ⟨.l 11, .p (.mv), [.c (.int .i64 0)], none, 0, 0⟩])
 (.block 0 (.loop (.seq (.reg [⟨.l 12, .p (.bin .lss), [.l 11, .l 10], none, 0, 0⟩])
 (.seq (.cond (.l 12) .skip
 (.exit 0))
 (.seq (.block 1 (.seq (.reg [⟨.t 13, .p (.mv), [.l 11], none, 0, 0⟩, ⟨.l 7, .p (.mv), [.t 13], none, 0, 0⟩])
 (.seq (.regD [⟨.t 14, .p (.mv), [.l 2], none, 0, 0⟩, ⟨.t 15, .p (.mv), [.l 0], none, 0, 0⟩, ⟨.t 16, .p (.mv), [.l 7], none, 0, 0⟩, ⟨.t 17, .p (.ixsl 9), [.t 15, .t 16], none, 0, 0⟩, ⟨.t 18, .r (.load true 9), [.t 17], none, 0, 0⟩, ⟨.t 19, .p (.mv), [.l 1], none, 0, 0⟩, ⟨.t 20, .p (.mv), [.l 7], none, 0, 0⟩, ⟨.t 21, .p (.ixsl 9), [.t 19, .t 20], none, 0, 0⟩, ⟨.t 22, .r (.load true 9), [.t 21], none, 0, 0⟩, ⟨.t 23, .callv, [.t 14, .t 18, .t 22], none, 0, 1⟩, ⟨.l 8, .p (.mv), [.t 23], none, 1, 1⟩])
 (.seq (.reg [⟨.t 24, .p (.mv), [.l 8], none, 0, 0⟩, ⟨.l 25, .p (.bin .neq), [.t 24, .c (.int .i64 0)], none, 0, 0⟩])
 (.cond (.l 25) (.seq (.reg [⟨.t 26, .p (.mv), [.l 8], none, 0, 0⟩, ⟨.l 6, .p (.mv), [.t 26], none, 0, 0⟩])
 .ret)
 .skip)))))
 (.reg [⟨.t 27, .p (.bin .add), [.l 11, .c (.int .i64 1)], none, 0, 0⟩, ⟨.l 11, .p (.mv), [.t 27], none, 0, 0⟩])))))))
 (.seq (.reg [⟨.l 6, .p (.mv), [.c (.int .i64 0)], none, 0, 0⟩])
 .ret))),
 [.tmp (.l 6)]⟩
theorem cf342_ok : compF TP Tryz.f342 = some cf342 := by kernel_rfl
def cf345 : CF := ⟨1, (.seq (.reg [⟨.l 2, .p (.mv), [.c (.bool false)], none, 0, 0⟩])
 (.seq (.reg [⟨.t 3, .p (.mv), [.l 0], none, 0, 0⟩, ⟨.t 4, .p (.mv), [.l 0], none, 0, 0⟩, ⟨.t 5, .p (.bin .neq), [.t 3, .t 4], none, 0, 0⟩, ⟨.l 2, .p (.mv), [.t 5], none, 0, 0⟩])
 .ret)),
 [.tmp (.l 2)]⟩
theorem cf345_ok : compF TP Tryz.f345 = some cf345 := by kernel_rfl
def cf347 : CF := ⟨1, (.seq (.reg [⟨.l 2, .p (.mv), [.c (.int .u64 0)], none, 0, 0⟩])
 (.seq (.seq (.reg [⟨.t 3, .p (.mv), [.l 0], none, 0, 0⟩, ⟨.l 4, .p (.bin .lss), [.t 3, .c (.int .i64 0)], none, 0, 0⟩])
 (.cond (.l 4) (.seq (.reg [⟨.t 5, .p (.mv), [.l 0], none, 0, 0⟩, ⟨.t 6, .p (.toInt .u64), [.t 5], none, 0, 0⟩, ⟨.t 7, .p (.un .neg), [.t 6], none, 0, 0⟩, ⟨.l 2, .p (.mv), [.t 7], none, 0, 0⟩])
 .ret)
 .skip))
 (.seq (.reg [⟨.t 8, .p (.mv), [.l 0], none, 0, 0⟩, ⟨.t 9, .p (.toInt .u64), [.t 8], none, 0, 0⟩, ⟨.l 2, .p (.mv), [.t 9], none, 0, 0⟩])
 .ret))),
 [.tmp (.l 2)]⟩
theorem cf347_ok : compF TP Tryz.f347 = some cf347 := by kernel_rfl
def cf348 : CF := ⟨1, (.seq (.reg [⟨.l 1, .a (.box), [.l 0], none, 0, 0⟩, ⟨.l 2, .p (.mv), [.c .nilf], none, 0, 0⟩])
 (.seq (.reg [⟨.t 3, .p (.mkf (.func 422) 0), [.l 1], none, 0, 0⟩, ⟨.l 2, .p (.mv), [.t 3], none, 0, 0⟩])
 .ret)),
 [.tmp (.l 2)]⟩
theorem cf348_ok : compF TP Tryz.f348 = some cf348 := by kernel_rfl
def cf350 : CF := ⟨2, (.seq (.reg [⟨.l 2, .a (.box), [.l 0], none, 0, 0⟩, ⟨.l 3, .a (.box), [.l 1], none, 0, 0⟩, ⟨.l 4, .p (.mv), [.c (.int .i64 0)], none, 0, 0⟩, ⟨.l 5, .p (.mv), [.c (.int .i64 0)], none, 0, 0⟩])
 (.seq (.reg [⟨.t 8, .r (.load false 1), [.l 2], none, 0, 0⟩, ⟨.t 9, .r (.load false 1), [.l 3], none, 0, 0⟩, ⟨.t 10, .p (.bin .sub), [.t 8, .t 9], none, 0, 0⟩, ⟨.l 6, .a (.alloc [(.int .i64 0)]), [], none, 0, 0⟩, ⟨.no, .e (.store 1), [.l 6, .t 10], none, 0, 0⟩])
 (.seq (.reg [⟨.t 11, .p (.mkf (.func 426) 0), [.l 2, .l 3, .l 6], none, 0, 0⟩, ⟨.l 7, .p (.mv), [.t 11], none, 0, 0⟩])
 (.seq (.seq (.reg [⟨.t 12, .p (.mv), [.l 7], none, 0, 0⟩, ⟨.l 13, .callv, [.t 12], none, 0, 0⟩])
 (.cond (.l 13) (.seq (.reg [⟨.l 4, .p (.mv), [.c (.int .i64 0)], none, 0, 0⟩, ⟨.l 5, .p (.mv), [.c (.int .i64 7)], none, 0, 0⟩])
 .ret)
 .skip))
 (.seq (.reg [⟨.t 14, .r (.load false 1), [.l 6], none, 0, 0⟩, ⟨.l 4, .p (.mv), [.t 14], none, 0, 0⟩, ⟨.l 5, .p (.mv), [.c (.int .i64 0)], none, 0, 0⟩])
 .ret))))),
 [.tmp (.l 4), .tmp (.l 5)]⟩
theorem cf350_ok : compF TP Tryz.f350 = some cf350 := by kernel_rfl
def cf362 : CF := ⟨1, (.seq (.reg [⟨.l 1, .a (.box), [.l 0], none, 0, 0⟩, ⟨.l 2, .p (.mv), [.c .nilf], none, 0, 0⟩])
 (.seq (.reg [⟨.t 3, .p (.mkf (.func 429) 0), [.l 1], none, 0, 0⟩, ⟨.l 2, .p (.mv), [.t 3], none, 0, 0⟩])
 .ret)),
 [.tmp (.l 2)]⟩
theorem cf362_ok : compF TP Tryz.f362 = some cf362 := by kernel_rfl
def cf367 : CF := ⟨1, (.seq (.reg [⟨.l 1, .a (.box), [.l 0], none, 0, 0⟩, ⟨.l 2, .p (.mv), [.c .nilf], none, 0, 0⟩])
 (.seq (.reg [⟨.t 3, .p (.mkf (.func 430) 0), [.l 1], none, 0, 0⟩, ⟨.l 2, .p (.mv), [.t 3], none, 0, 0⟩])
 .ret)),
 [.tmp (.l 2)]⟩
theorem cf367_ok : compF TP Tryz.f367 = some cf367 := by kernel_rfl
def cf405 : CF := ⟨3, (.seq (.reg [⟨.t 7, .p (.mv), [.l 1], none, 0, 0⟩, ⟨.l 8, .call 406, [.t 7], none, 0, 0⟩, ⟨.l 9, .p (.leng .sl), [.l 8], none, 0, 0⟩, ⟨.l 10, .p (.mv), [.c (.int .i64 0)], none, 0, 0⟩])
 (.block 0 (.loop (.seq (.reg [⟨.l 11, .p (.bin .lss), [.l 10, .l 9], none, 0, 0⟩])
 (.seq (.cond (.l 11) .skip
 (.exit 0))
 (.seq (.block 1 (.seq (.reg [⟨.t 12, .p (.ixsl 1), [.l 8, .l 10], none, 0, 0⟩, ⟨.t 13, .r (.load false 1), [.t 12], none, 0, 0⟩, ⟨.l 6, .p (.mv), [.t 13], none, 0, 0⟩])
 (.reg [⟨.t 14, .r (.load false 1), [.l 2], none, 0, 0⟩, ⟨.t 15, .p (.mv), [.l 6], none, 0, 0⟩, ⟨.t 16, .p (.mv), [.l 0], none, 0, 0⟩, ⟨.no, .e (.mapup (.one .s)), [.t 14, .t 15, .t 16], none, 0, 0⟩])))
 (.reg [⟨.t 17, .p (.bin .add), [.l 10, .c (.int .i64 1)], none, 0, 0⟩, ⟨.l 10, .p (.mv), [.t 17], none, 0, 0⟩]))))))),
 []⟩
theorem cf405_ok : compF TP Tryz.f405 = some cf405 := by kernel_rfl
def cf406 : CF := ⟨1, (.seq (.reg [⟨.l 2, .p (.mv), [.c .nils], none, 0, 0⟩])
 (.seq (.reg [⟨.l 3, .p (.mv), [.c (.int .i64 0)], none, 0, 0⟩])
 (.seq (.reg [⟨.l 4, .p (.mv), [.c (.int .i64 1)], none, 0, 0⟩])
 (.seq (.reg [⟨.l 5, .p (.mv), [.c (.int .u8 0)], none, 0, 0⟩])
 (.seq (.seq (.reg [⟨.l 6, .p (.mv), [.c (.int .i64 0)], none, 0, 0⟩])
 (.block 0 (.loop (.seq (.seq (.reg [⟨.t 13, .p (.mv), [.l 6], none, 0, 0⟩, ⟨.t 14, .p (.mv), [.l 0], none, 0, 0⟩, ⟨.t 15, .p (.leng .str), [.t 14], none, 0, 0⟩, ⟨.l 16, .p (.bin .lss), [.t 13, .t 15], none, 0, 0⟩])
 (.cond (.l 16) .skip
 (.exit 0)))
 (.seq (.block 1 (.seq (.reg [⟨.t 19, .p (.mv), [.l 0], none, 0, 0⟩, ⟨.t 20, .p (.mv), [.l 6], none, 0, 0⟩, ⟨.t 21, .p (.ixstr), [.t 19, .t 20], none, 0, 0⟩, ⟨.l 7, .p (.mv), [.t 21], none, 0, 0⟩])
 (.seq (.reg [⟨.t 22, .p (.mv), [.l 5], none, 0, 0⟩, ⟨.t 23, .p (.mv), [.l 7], none, 0, 0⟩, ⟨.t 24, .p (.bin .or), [.t 22, .t 23], none, 0, 0⟩, ⟨.l 5, .p (.mv), [.t 24], none, 0, 0⟩])
 (.seq (.reg [⟨.t 25, .p (.mv), [.l 7], none, 0, 0⟩, ⟨.t 26, .p (.ixarrp 256 1), [.c (.ptr 1 0), .t 25], none, 0, 0⟩, ⟨.t 27, .r (.load false 1), [.t 26], none, 0, 0⟩, ⟨.t 28, .p (.toInt .i64), [.t 27], none, 0, 0⟩, ⟨.l 8, .p (.mv), [.t 28], none, 0, 0⟩])
 (.seq (.reg [⟨.t 29, .p (.mv), [.l 3], none, 0, 0⟩, ⟨.t 30, .p (.mv), [.l 4], none, 0, 0⟩, ⟨.t 31, .p (.mv), [.l 8], none, 0, 0⟩, ⟨.t 32, .p (.un .xor), [.t 31], none, 0, 0⟩, ⟨.t 33, .p (.bin .and), [.t 30, .t 32], none, 0, 0⟩, ⟨.t 34, .p (.bin .add), [.t 29, .t 33], none, 0, 0⟩, ⟨.l 3, .p (.mv), [.t 34], none, 0, 0⟩])
 (.reg [⟨.t 35, .p (.mv), [.l 8], none, 0, 0⟩, ⟨.l 4, .p (.mv), [.t 35], none, 0, 0⟩]))))))
 (.reg [⟨.t 17, .p (.mv), [.l 6], none, 0, 0⟩, ⟨.t 18, .p (.bin .add), [.t 17, .c (.int .i64 1)], none, 0, 0⟩, ⟨.l 6, .p (.mv), [.t 18], none, 0, 0⟩]))))))
 (.seq (.seq (.reg [⟨.t 36, .p (.mv), [.l 5], none, 0, 0⟩, ⟨.l 37, .p (.bin .geq), [.t 36, .c (.int .u8 128)], none, 0, 0⟩])
 (.cond (.l 37) (.seq (.reg [⟨.t 38, .p (.mv), [.l 0], none, 0, 0⟩, ⟨.t 39, .call 446, [.t 38, .c (.func (.func 447) [] [])], none, 0, 0⟩, ⟨.l 2, .p (.mv), [.t 39], none, 0, 0⟩])
 .ret)
 .skip))
 (.seq (.reg [⟨.t 40, .p (.mv), [.l 3], none, 0, 0⟩, ⟨.t 41, .a (.mks [(.str 0 0)] 16), [.t 40, .t 40], none, 0, 0⟩, ⟨.l 9, .p (.mv), [.t 41], none, 0, 0⟩])
 (.seq (.reg [⟨.l 10, .p (.mv), [.c (.int .i64 0)], none, 0, 0⟩])
 (.seq (.reg [⟨.l 11, .p (.mv), [.c (.int .i64 0)], none, 0, 0⟩])
 (.seq (.reg [⟨.l 12, .p (.mv), [.c (.int .i64 0)], none, 0, 0⟩])
 (.seq (.block 2 (.loop (.seq (.seq (.reg [⟨.t 42, .p (.mv), [.l 12], none, 0, 0⟩, ⟨.t 43, .p (.mv), [.l 0], none, 0, 0⟩, ⟨.t 44, .p (.leng .str), [.t 43], none, 0, 0⟩, ⟨.t 45, .p (.bin .lss), [.t 42, .t 44], none, 0, 0⟩, ⟨.t 46, .p (.mv), [.t 45], none, 0, 0⟩, ⟨.t 47, .p (.mv), [.l 0], (some (.t 46, true)), 0, 0⟩, ⟨.t 48, .p (.mv), [.l 12], (some (.t 46, true)), 0, 0⟩, ⟨.t 49, .p (.ixstr), [.t 47, .t 48], (some (.t 46, true)), 0, 0⟩, ⟨.t 50, .p (.ixarrp 256 1), [.c (.ptr 1 0), .t 49], (some (.t 46, true)), 0, 0⟩, ⟨.t 51, .r (.load false 1), [.t 50], (some (.t 46, true)), 0, 0⟩, ⟨.t 52, .p (.bin .neq), [.t 51, .c (.int .u8 0)], (some (.t 46, true)), 0, 0⟩, ⟨.l 53, .p (.pick), [.t 46, .t 52, .c (.bool false)], none, 0, 0⟩])
 (.cond (.l 53) .skip
 (.exit 2)))
 (.block 3 (.reg [⟨.t 54, .p (.mv), [.l 12], none, 0, 0⟩, ⟨.t 55, .p (.bin .add), [.t 54, .c (.int .i64 1)], none, 0, 0⟩, ⟨.l 12, .p (.mv), [.t 55], none, 0, 0⟩])))))
 (.seq (.reg [⟨.t 56, .p (.mv), [.l 12], none, 0, 0⟩, ⟨.l 11, .p (.mv), [.t 56], none, 0, 0⟩])
 (.seq (.block 4 (.loop (.seq (.seq (.reg [⟨.t 57, .p (.mv), [.l 12], none, 0, 0⟩, ⟨.t 58, .p (.mv), [.l 0], none, 0, 0⟩, ⟨.t 59, .p (.leng .str), [.t 58], none, 0, 0⟩, ⟨.l 60, .p (.bin .lss), [.t 57, .t 59], none, 0, 0⟩])
 (.cond (.l 60) .skip
 (.exit 4)))
 (.block 5 (.seq (.seq (.reg [⟨.t 61, .p (.mv), [.l 0], none, 0, 0⟩, ⟨.t 62, .p (.mv), [.l 12], none, 0, 0⟩, ⟨.t 63, .p (.ixstr), [.t 61, .t 62], none, 0, 0⟩, ⟨.t 64, .p (.ixarrp 256 1), [.c (.ptr 1 0), .t 63], none, 0, 0⟩, ⟨.t 65, .r (.load false 1), [.t 64], none, 0, 0⟩, ⟨.l 66, .p (.bin .eql), [.t 65, .c (.int .u8 0)], none, 0, 0⟩])
 (.cond (.l 66) (.seq (.reg [⟨.t 67, .p (.mv), [.l 12], none, 0, 0⟩, ⟨.t 68, .p (.bin .add), [.t 67, .c (.int .i64 1)], none, 0, 0⟩, ⟨.l 12, .p (.mv), [.t 68], none, 0, 0⟩])
 (.exit 5))
 .skip))
 (.seq (.reg [⟨.t 69, .p (.mv), [.l 9], none, 0, 0⟩, ⟨.t 70, .p (.mv), [.l 10], none, 0, 0⟩, ⟨.t 71, .p (.mv), [.l 0], none, 0, 0⟩, ⟨.t 72, .p (.mv), [.l 11], none, 0, 0⟩, ⟨.t 73, .p (.mv), [.l 12], none, 0, 0⟩, ⟨.t 74, .p (.slc .str true true false), [.t 71, .t 72, .t 73], none, 0, 0⟩, ⟨.t 75, .p (.ixsl 1), [.t 69, .t 70], none, 0, 0⟩, ⟨.no, .e (.store 1), [.t 75, .t 74], none, 0, 0⟩])
 (.seq (.reg [⟨.t 76, .p (.mv), [.l 10], none, 0, 0⟩, ⟨.t 77, .p (.bin .add), [.t 76, .c (.int .i64 1)], none, 0, 0⟩, ⟨.l 10, .p (.mv), [.t 77], none, 0, 0⟩])
 (.seq (.reg [⟨.t 78, .p (.mv), [.l 12], none, 0, 0⟩, ⟨.t 79, .p (.bin .add), [.t 78, .c (.int .i64 1)], none, 0, 0⟩, ⟨.l 12, .p (.mv), [.t 79], none, 0, 0⟩])
 (.seq (.block 6 (.loop (.seq (.seq (.reg [⟨.t 80, .p (.mv), [.l 12], none, 0, 0⟩, ⟨.t 81, .p (.mv), [.l 0], none, 0, 0⟩, ⟨.t 82, .p (.leng .str), [.t 81], none, 0, 0⟩, ⟨.t 83, .p (.bin .lss), [.t 80, .t 82], none, 0, 0⟩, ⟨.t 84, .p (.mv), [.t 83], none, 0, 0⟩, ⟨.t 85, .p (.mv), [.l 0], (some (.t 84, true)), 0, 0⟩, ⟨.t 86, .p (.mv), [.l 12], (some (.t 84, true)), 0, 0⟩, ⟨.t 87, .p (.ixstr), [.t 85, .t 86], (some (.t 84, true)), 0, 0⟩, ⟨.t 88, .p (.ixarrp 256 1), [.c (.ptr 1 0), .t 87], (some (.t 84, true)), 0, 0⟩, ⟨.t 89, .r (.load false 1), [.t 88], (some (.t 84, true)), 0, 0⟩, ⟨.t 90, .p (.bin .neq), [.t 89, .c (.int .u8 0)], (some (.t 84, true)), 0, 0⟩, ⟨.l 91, .p (.pick), [.t 84, .t 90, .c (.bool false)], none, 0, 0⟩])
 (.cond (.l 91) .skip
 (.exit 6)))
 (.block 7 (.reg [⟨.t 92, .p (.mv), [.l 12], none, 0, 0⟩, ⟨.t 93, .p (.bin .add), [.t 92, .c (.int .i64 1)], none, 0, 0⟩, ⟨.l 12, .p (.mv), [.t 93], none, 0, 0⟩])))))
 (.reg [⟨.t 94, .p (.mv), [.l 12], none, 0, 0⟩, ⟨.l 11, .p (.mv), [.t 94], none, 0, 0⟩]))))))))))
 (.seq (.seq (.reg [⟨.t 95, .p (.mv), [.l 11], none, 0, 0⟩, ⟨.t 96, .p (.mv), [.l 0], none, 0, 0⟩, ⟨.t 97, .p (.leng .str), [.t 96], none, 0, 0⟩, ⟨.l 98, .p (.bin .lss), [.t 95, .t 97], none, 0, 0⟩])
 (.cond (.l 98) (.reg [⟨.t 99, .p (.mv), [.l 9], none, 0, 0⟩, ⟨.t 100, .p (.mv), [.l 10], none, 0, 0⟩, ⟨.t 101, .p (.mv), [.l 0], none, 0, 0⟩, ⟨.t 102, .p (.mv), [.l 11], none, 0, 0⟩, ⟨.t 103, .p (.slc .str true false false), [.t 101, .t 102], none, 0, 0⟩, ⟨.t 104, .p (.ixsl 1), [.t 99, .t 100], none, 0, 0⟩, ⟨.no, .e (.store 1), [.t 104, .t 103], none, 0, 0⟩])
 .skip))
 (.seq (.reg [⟨.t 105, .p (.mv), [.l 9], none, 0, 0⟩, ⟨.l 2, .p (.mv), [.t 105], none, 0, 0⟩])
 .ret))))))))))))))),
 [.tmp (.l 2)]⟩
theorem cf406_ok : compF TP Tryz.f406 = some cf406 := by kernel_rfl
def cf407 : CF := ⟨3, (.seq (.reg [⟨.l 4, .p (.mv), [.c (.bool true)], none, 0, 0⟩, ⟨.l 5, .p (.mv), [.c (.bool false)], none, 0, 0⟩])
 (.seq (.seq (.reg [⟨.t 8, .r (.load false 1), [.l 1], none, 0, 0⟩, ⟨.t 9, .p (.nilc), [.t 8], none, 0, 0⟩, ⟨.t 10, .p (.fa 0), [.t 9], none, 0, 0⟩, ⟨.l 11, .r (.load false 1), [.t 10], none, 0, 0⟩])
 (.block 0 (.seq (.seq (.reg [⟨.t 13, .p (.bin .eql), [.l 11, .c (.int .i64 17)], none, 0, 0⟩, ⟨.l 12, .p (.mv), [.t 13], none, 0, 0⟩])
 (.cond (.l 12) .skip
 (.seq (.reg [⟨.t 14, .p (.bin .eql), [.l 11, .c (.int .i64 19)], none, 0, 0⟩, ⟨.l 12, .p (.mv), [.t 14], none, 0, 0⟩])
 (.cond (.l 12) .skip
 (.seq (.reg [⟨.t 15, .p (.bin .eql), [.l 11, .c (.int .i64 21)], none, 0, 0⟩, ⟨.l 12, .p (.mv), [.t 15], none, 0, 0⟩])
 (.cond (.l 12) .skip
 (.seq (.reg [⟨.t 16, .p (.bin .eql), [.l 11, .c (.int .i64 23)], none, 0, 0⟩, ⟨.l 12, .p (.mv), [.t 16], none, 0, 0⟩])
 (.cond (.l 12) .skip
 (.seq (.reg [⟨.t 17, .p (.bin .eql), [.l 11, .c (.int .i64 26)], none, 0, 0⟩, ⟨.l 12, .p (.mv), [.t 17], none, 0, 0⟩])
 (.cond (.l 12) .skip
 (.reg [⟨.t 18, .p (.bin .eql), [.l 11, .c (.int .i64 27)], none, 0, 0⟩, ⟨.l 12, .p (.mv), [.t 18], none, 0, 0⟩])))))))))))
 (.cond (.l 12) (.reg [⟨.l 4, .p (.mv), [.c (.bool false)], none, 0, 0⟩])
 (.seq (.seq (.reg [⟨.t 20, .p (.bin .eql), [.l 11, .c (.int .i64 8)], none, 0, 0⟩, ⟨.l 19, .p (.mv), [.t 20], none, 0, 0⟩])
 (.cond (.l 19) .skip
 (.seq (.reg [⟨.t 21, .p (.bin .eql), [.l 11, .c (.int .i64 39)], none, 0, 0⟩, ⟨.l 19, .p (.mv), [.t 21], none, 0, 0⟩])
 (.cond (.l 19) .skip
 (.reg [⟨.t 22, .p (.bin .eql), [.l 11, .c (.int .i64 12)], none, 0, 0⟩, ⟨.l 19, .p (.mv), [.t 22], none, 0, 0⟩])))))
 (.cond (.l 19) (.reg [⟨.l 4, .p (.mv), [.c (.bool false)], none, 0, 0⟩, ⟨.l 5, .p (.mv), [.c (.bool true)], none, 0, 0⟩])
 (.seq (.seq (.reg [⟨.t 24, .p (.bin .eql), [.l 11, .c (.int .i64 9)], none, 0, 0⟩, ⟨.l 23, .p (.mv), [.t 24], none, 0, 0⟩])
 (.cond (.l 23) .skip
 (.seq (.reg [⟨.t 25, .p (.bin .eql), [.l 11, .c (.int .i64 10)], none, 0, 0⟩, ⟨.l 23, .p (.mv), [.t 25], none, 0, 0⟩])
 (.cond (.l 23) .skip
 (.seq (.reg [⟨.t 26, .p (.bin .eql), [.l 11, .c (.int .i64 11)], none, 0, 0⟩, ⟨.l 23, .p (.mv), [.t 26], none, 0, 0⟩])
 (.cond (.l 23) .skip
 (.seq (.reg [⟨.t 27, .p (.bin .eql), [.l 11, .c (.int .i64 13)], none, 0, 0⟩, ⟨.l 23, .p (.mv), [.t 27], none, 0, 0⟩])
 (.cond (.l 23) .skip
 (.seq (.reg [⟨.t 28, .p (.bin .eql), [.l 11, .c (.int .i64 30)], none, 0, 0⟩, ⟨.l 23, .p (.mv), [.t 28], none, 0, 0⟩])
 (.cond (.l 23) .skip
 (.seq (.reg [⟨.t 29, .p (.bin .eql), [.l 11, .c (.int .i64 31)], none, 0, 0⟩, ⟨.l 23, .p (.mv), [.t 29], none, 0, 0⟩])
 (.cond (.l 23) .skip
 (.seq (.reg [⟨.t 30, .p (.bin .eql), [.l 11, .c (.int .i64 32)], none, 0, 0⟩, ⟨.l 23, .p (.mv), [.t 30], none, 0, 0⟩])
 (.cond (.l 23) .skip
 (.seq (.reg [⟨.t 31, .p (.bin .eql), [.l 11, .c (.int .i64 33)], none, 0, 0⟩, ⟨.l 23, .p (.mv), [.t 31], none, 0, 0⟩])
 (.cond (.l 23) .skip
 (.seq (.reg [⟨.t 32, .p (.bin .eql), [.l 11, .c (.int .i64 34)], none, 0, 0⟩, ⟨.l 23, .p (.mv), [.t 32], none, 0, 0⟩])
 (.cond (.l 23) .skip
 (.seq (.reg [⟨.t 33, .p (.bin .eql), [.l 11, .c (.int .i64 37)], none, 0, 0⟩, ⟨.l 23, .p (.mv), [.t 33], none, 0, 0⟩])
 (.cond (.l 23) .skip
 (.reg [⟨.t 34, .p (.bin .eql), [.l 11, .c (.int .i64 40)], none, 0, 0⟩, ⟨.l 23, .p (.mv), [.t 34], none, 0, 0⟩])))))))))))))))))))))
 (.cond (.l 23) (.reg [⟨.l 5, .p (.mv), [.c (.bool true)], none, 0, 0⟩])
 .skip))))))))
 (.seq (.seq (.reg [⟨.t 35, .p (.mv), [.l 4], none, 0, 0⟩, ⟨.t 36, .p (.mv), [.t 35], none, 0, 0⟩, ⟨.t 37, .p (.mv), [.l 0], (some (.t 36, true)), 0, 0⟩, ⟨.t 38, .r (.load false 1), [.l 2], (some (.t 36, true)), 0, 0⟩, ⟨.t 39, .p (.bin .add), [.t 38, .c (.int .i64 1)], (some (.t 36, true)), 0, 0⟩, ⟨.t 40, .callv, [.t 37, .t 39], (some (.t 36, true)), 0, 0⟩, ⟨.t 41, .p (.un .not), [.t 40], (some (.t 36, true)), 0, 0⟩, ⟨.t 42, .p (.pick), [.t 36, .t 41, .c (.bool false)], none, 0, 0⟩, ⟨.t 43, .p (.mv), [.t 42], none, 0, 0⟩, ⟨.t 44, .p (.mv), [.l 5], (some (.t 43, false)), 0, 0⟩, ⟨.t 45, .p (.mv), [.t 44], (some (.t 43, false)), 0, 0⟩, ⟨.t 46, .p (.mv), [.l 0], (some (.t 45, true)), 0, 0⟩, ⟨.t 47, .r (.load false 1), [.l 1], (some (.t 45, true)), 0, 0⟩, ⟨.t 48, .p (.nilc), [.t 47], (some (.t 45, true)), 0, 0⟩, ⟨.t 49, .p (.fa 4), [.t 48], (some (.t 45, true)), 0, 0⟩, ⟨.t 50, .r (.load false 1), [.t 49], (some (.t 45, true)), 0, 0⟩, ⟨.t 51, .callv, [.t 46, .t 50], (some (.t 45, true)), 0, 0⟩, ⟨.t 52, .p (.un .not), [.t 51], (some (.t 45, true)), 0, 0⟩, ⟨.t 53, .p (.pick), [.t 45, .t 52, .c (.bool false)], (some (.t 43, false)), 0, 0⟩, ⟨.t 54, .p (.pick), [.t 43, .c (.bool true), .t 53], none, 0, 0⟩, ⟨.t 55, .p (.mv), [.t 54], none, 0, 0⟩, ⟨.t 56, .r (.load false 1), [.l 1], (some (.t 55, false)), 0, 0⟩, ⟨.t 57, .p (.nilc), [.t 56], (some (.t 55, false)), 0, 0⟩, ⟨.t 58, .p (.fa 0), [.t 57], (some (.t 55, false)), 0, 0⟩, ⟨.t 59, .r (.load false 1), [.t 58], (some (.t 55, false)), 0, 0⟩, ⟨.t 60, .p (.bin .neq), [.t 59, .c (.int .i64 12)], (some (.t 55, false)), 0, 0⟩, ⟨.l 61, .p (.pick), [.t 55, .c (.bool true), .t 60], none, 0, 0⟩])
 (.cond (.l 61) .ret
 .skip))
 (.seq (.reg [⟨.t 62, .r (.load false 1), [.l 1], none, 0, 0⟩, ⟨.t 63, .p (.nilc), [.t 62], none, 0, 0⟩, ⟨.t 64, .p (.fa 8), [.t 63], none, 0, 0⟩, ⟨.l 65, .r (.load false 1), [.t 64], none, 0, 0⟩, ⟨.l 66, .p (.leng .sl), [.l 65], none, 0, 0⟩, ⟨.l 67, .p (.mv), [.c (.int .i64 0)], none, 0, 0⟩])
 (.block 1 (.loop (.seq (.reg [⟨.l 68, .p (.bin .lss), [.l 67, .l 66], none, 0, 0⟩])
 (.seq (.cond (.l 68) .skip
 (.exit 1))
 (.seq (.block 2 (.seq (.reg [⟨.t 69, .p (.ixsl 2), [.l 65, .l 67], none, 0, 0⟩, ⟨.t 70, .r (.load true 2), [.t 69], none, 0, 0⟩, ⟨.l 7, .a (.alloc [(.int .i64 0), (.int .i64 0)]), [], none, 0, 0⟩, ⟨.no, .e (.store 2), [.l 7, .t 70], none, 0, 0⟩])
 (.seq (.reg [⟨.t 71, .p (.mv), [.l 0], none, 0, 0⟩, ⟨.t 72, .p (.fa 1), [.l 7], none, 0, 0⟩, ⟨.t 73, .r (.load false 1), [.t 72], none, 0, 0⟩, ⟨.t 74, .callv, [.t 71, .t 73], none, 0, 0⟩, ⟨.l 75, .p (.un .not), [.t 74], none, 0, 0⟩])
 (.cond (.l 75) .ret
 .skip))))
 (.reg [⟨.t 76, .p (.bin .add), [.l 67, .c (.int .i64 1)], none, 0, 0⟩, ⟨.l 67, .p (.mv), [.t 76], none, 0, 0⟩])))))))))),
 []⟩
theorem cf407_ok : compF TP Tryz.f407 = some cf407 := by kernel_rfl
def cf408 : CF := ⟨4, (.seq (.reg [⟨.l 8, .p (.mv), [.c (.bool true)], none, 0, 0⟩])
 (.seq (.reg [⟨.l 9, .p (.mv), [.c (.bool true)], none, 0, 0⟩])
 (.block 0 (.loop (.block 1 (.seq (.reg [⟨.t 19, .p (.mv), [.l 2], none, 0, 0⟩, ⟨.t 20, .p (.mv), [.l 1], none, 0, 0⟩, ⟨.t 21, .p (.bin .sub), [.t 19, .t 20], none, 0, 0⟩, ⟨.l 10, .p (.mv), [.t 21], none, 0, 0⟩])
 (.seq (.seq (.reg [⟨.t 22, .p (.mv), [.l 10], none, 0, 0⟩, ⟨.l 23, .p (.bin .leq), [.t 22, .c (.int .i64 12)], none, 0, 0⟩])
 (.cond (.l 23) (.seq (.reg [⟨.t 24, .p (.mv), [.l 0], none, 0, 0⟩, ⟨.t 25, .p (.mv), [.l 1], none, 0, 0⟩, ⟨.t 26, .p (.mv), [.l 2], none, 0, 0⟩, ⟨.t 27, .call 448, [.t 24, .t 25, .t 26], none, 0, 0⟩])
 .ret)
 .skip))
 (.seq (.seq (.reg [⟨.t 28, .p (.mv), [.l 3], none, 0, 0⟩, ⟨.l 29, .p (.bin .eql), [.t 28, .c (.int .i64 0)], none, 0, 0⟩])
 (.cond (.l 29) (.seq (.reg [⟨.t 30, .p (.mv), [.l 0], none, 0, 0⟩, ⟨.t 31, .p (.mv), [.l 1], none, 0, 0⟩, ⟨.t 32, .p (.mv), [.l 2], none, 0, 0⟩, ⟨.t 33, .call 449, [.t 30, .t 31, .t 32], none, 0, 0⟩])
 .ret)
 .skip))
 (.seq (.seq (.reg [⟨.t 34, .p (.mv), [.l 8], none, 0, 0⟩, ⟨.l 35, .p (.un .not), [.t 34], none, 0, 0⟩])
 (.cond (.l 35) (.seq (.reg [⟨.t 36, .p (.mv), [.l 0], none, 0, 0⟩, ⟨.t 37, .p (.mv), [.l 1], none, 0, 0⟩, ⟨.t 38, .p (.mv), [.l 2], none, 0, 0⟩, ⟨.t 39, .call 450, [.t 36, .t 37, .t 38], none, 0, 0⟩])
 (.reg [⟨.t 40, .p (.mv), [.l 3], none, 0, 0⟩, ⟨.t 41, .p (.bin .sub), [.t 40, .c (.int .i64 1)], none, 0, 0⟩, ⟨.l 3, .p (.mv), [.t 41], none, 0, 0⟩]))
 .skip))
 (.seq (.reg [⟨.t 43, .p (.mv), [.l 0], none, 0, 0⟩, ⟨.t 44, .p (.mv), [.l 1], none, 0, 0⟩, ⟨.t 45, .p (.mv), [.l 2], none, 0, 0⟩, ⟨.t 46, .call 451, [.t 43, .t 44, .t 45], none, 0, 0⟩, ⟨.t 42, .p (.mv), [.t 46], none, 0, 0⟩, ⟨.t 47, .p (.ext 0), [.t 42], none, 0, 0⟩, ⟨.t 48, .p (.ext 1), [.t 42], none, 0, 0⟩, ⟨.l 11, .p (.mv), [.t 47], none, 0, 0⟩, ⟨.l 12, .p (.mv), [.t 48], none, 0, 0⟩])
 (.seq (.seq (.reg [⟨.t 49, .p (.mv), [.l 12], none, 0, 0⟩, ⟨.l 50, .p (.bin .eql), [.t 49, .c (.int .i64 2)], none, 0, 0⟩])
 (.cond (.l 50) (.seq (.reg [⟨.t 51, .p (.mv), [.l 0], none, 0, 0⟩, ⟨.t 52, .p (.mv), [.l 1], none, 0, 0⟩, ⟨.t 53, .p (.mv), [.l 2], none, 0, 0⟩, ⟨.t 54, .call 452, [.t 51, .t 52, .t 53], none, 0, 0⟩])
 (.seq (.reg [⟨.t 55, .p (.mv), [.l 2], none, 0, 0⟩, ⟨.t 56, .p (.bin .sub), [.t 55, .c (.int .i64 1)], none, 0, 0⟩, ⟨.t 57, .p (.mv), [.l 11], none, 0, 0⟩, ⟨.t 58, .p (.mv), [.l 1], none, 0, 0⟩, ⟨.t 59, .p (.bin .sub), [.t 57, .t 58], none, 0, 0⟩, ⟨.t 60, .p (.bin .sub), [.t 56, .t 59], none, 0, 0⟩, ⟨.l 11, .p (.mv), [.t 60], none, 0, 0⟩])
 (.reg [⟨.l 12, .p (.mv), [.c (.int .i64 1)], none, 0, 0⟩])))
 .skip))
 (.seq (.seq (.reg [⟨.t 61, .p (.mv), [.l 8], none, 0, 0⟩, ⟨.t 62, .p (.mv), [.t 61], none, 0, 0⟩, ⟨.t 63, .p (.mv), [.l 9], (some (.t 62, true)), 0, 0⟩, ⟨.t 64, .p (.pick), [.t 62, .t 63, .c (.bool false)], none, 0, 0⟩, ⟨.t 65, .p (.mv), [.t 64], none, 0, 0⟩, ⟨.t 66, .p (.mv), [.l 12], (some (.t 65, true)), 0, 0⟩, ⟨.t 67, .p (.bin .eql), [.t 66, .c (.int .i64 1)], (some (.t 65, true)), 0, 0⟩, ⟨.l 68, .p (.pick), [.t 65, .t 67, .c (.bool false)], none, 0, 0⟩])
 (.cond (.l 68) (.seq (.reg [⟨.t 69, .p (.mv), [.l 0], none, 0, 0⟩, ⟨.t 70, .p (.mv), [.l 1], none, 0, 0⟩, ⟨.t 71, .p (.mv), [.l 2], none, 0, 0⟩, ⟨.l 72, .call 453, [.t 69, .t 70, .t 71], none, 0, 0⟩])
 (.cond (.l 72) .ret
 .skip))
 .skip))
 (.seq (.seq (.regD [⟨.t 73, .p (.mv), [.l 1], none, 0, 0⟩, ⟨.t 74, .p (.bin .gtr), [.t 73, .c (.int .i64 0)], none, 0, 0⟩, ⟨.t 75, .p (.mv), [.t 74], none, 0, 0⟩, ⟨.t 76, .p (.mv), [.l 0], (some (.t 75, true)), 0, 0⟩, ⟨.t 77, .p (.mv), [.l 1], (some (.t 75, true)), 0, 0⟩, ⟨.t 78, .p (.bin .sub), [.t 77, .c (.int .i64 1)], (some (.t 75, true)), 0, 0⟩, ⟨.t 79, .p (.ixsl 1), [.t 76, .t 78], (some (.t 75, true)), 0, 0⟩, ⟨.t 80, .r (.load false 1), [.t 79], (some (.t 75, true)), 0, 0⟩, ⟨.t 81, .p (.mv), [.l 0], (some (.t 75, true)), 0, 0⟩, ⟨.t 82, .p (.mv), [.l 11], (some (.t 75, true)), 0, 0⟩, ⟨.t 83, .p (.ixsl 1), [.t 81, .t 82], (some (.t 75, true)), 0, 0⟩, ⟨.t 84, .r (.load false 1), [.t 83], (some (.t 75, true)), 0, 0⟩, ⟨.t 85, .call 454, [.t 80, .t 84], (some (.t 75, true)), 0, 1⟩, ⟨.t 86, .p (.un .not), [.t 85], (some (.t 75, true)), 1, 1⟩, ⟨.l 87, .p (.pick), [.t 75, .t 86, .c (.bool false)], none, 1, 1⟩])
 (.cond (.l 87) (.seq (.reg [⟨.t 88, .p (.mv), [.l 0], none, 0, 0⟩, ⟨.t 89, .p (.mv), [.l 1], none, 0, 0⟩, ⟨.t 90, .p (.mv), [.l 2], none, 0, 0⟩, ⟨.t 91, .p (.mv), [.l 11], none, 0, 0⟩, ⟨.t 92, .call 455, [.t 88, .t 89, .t 90, .t 91], none, 0, 0⟩, ⟨.l 13, .p (.mv), [.t 92], none, 0, 0⟩])
 (.seq (.reg [⟨.t 93, .p (.mv), [.l 13], none, 0, 0⟩, ⟨.l 1, .p (.mv), [.t 93], none, 0, 0⟩])
 (.exit 1)))
 .skip))
 (.seq (.reg [⟨.t 95, .p (.mv), [.l 0], none, 0, 0⟩, ⟨.t 96, .p (.mv), [.l 1], none, 0, 0⟩, ⟨.t 97, .p (.mv), [.l 2], none, 0, 0⟩, ⟨.t 98, .p (.mv), [.l 11], none, 0, 0⟩, ⟨.t 99, .call 456, [.t 95, .t 96, .t 97, .t 98], none, 0, 0⟩, ⟨.t 94, .p (.mv), [.t 99], none, 0, 0⟩, ⟨.t 100, .p (.ext 0), [.t 94], none, 0, 0⟩, ⟨.t 101, .p (.ext 1), [.t 94], none, 0, 0⟩, ⟨.l 14, .p (.mv), [.t 100], none, 0, 0⟩, ⟨.l 15, .p (.mv), [.t 101], none, 0, 0⟩])
 (.seq (.reg [⟨.t 102, .p (.mv), [.l 15], none, 0, 0⟩, ⟨.l 9, .p (.mv), [.t 102], none, 0, 0⟩])
 (.seq (.reg [⟨.t 103, .p (.mv), [.l 14], none, 0, 0⟩, ⟨.t 104, .p (.mv), [.l 1], none, 0, 0⟩, ⟨.t 105, .p (.bin .sub), [.t 103, .t 104], none, 0, 0⟩, ⟨.t 106, .p (.mv), [.l 2], none, 0, 0⟩, ⟨.t 107, .p (.mv), [.l 14], none, 0, 0⟩, ⟨.t 108, .p (.bin .sub), [.t 106, .t 107], none, 0, 0⟩, ⟨.l 16, .p (.mv), [.t 105], none, 0, 0⟩, ⟨.l 17, .p (.mv), [.t 108], none, 0, 0⟩])
 (.seq (.reg [⟨.t 109, .p (.mv), [.l 10], none, 0, 0⟩, ⟨.t 110, .p (.bin .quo), [.t 109, .c (.int .i64 8)], none, 0, 0⟩, ⟨.l 18, .p (.mv), [.t 110], none, 0, 0⟩])
 (.seq (.reg [⟨.t 111, .p (.mv), [.l 16], none, 0, 0⟩, ⟨.t 112, .p (.mv), [.l 17], none, 0, 0⟩, ⟨.l 113, .p (.bin .lss), [.t 111, .t 112], none, 0, 0⟩])
 (.cond (.l 113) (.seq (.reg [⟨.t 114, .p (.mv), [.l 16], none, 0, 0⟩, ⟨.t 115, .p (.mv), [.l 18], none, 0, 0⟩, ⟨.t 116, .p (.bin .geq), [.t 114, .t 115], none, 0, 0⟩, ⟨.l 8, .p (.mv), [.t 116], none, 0, 0⟩])
 (.seq (.reg [⟨.t 117, .p (.mv), [.l 0], none, 0, 0⟩, ⟨.t 118, .p (.mv), [.l 1], none, 0, 0⟩, ⟨.t 119, .p (.mv), [.l 14], none, 0, 0⟩, ⟨.t 120, .p (.mv), [.l 3], none, 0, 0⟩, ⟨.t 121, .call 408, [.t 117, .t 118, .t 119, .t 120], none, 0, 0⟩])
 (.reg [⟨.t 122, .p (.mv), [.l 14], none, 0, 0⟩, ⟨.t 123, .p (.bin .add), [.t 122, .c (.int .i64 1)], none, 0, 0⟩, ⟨.l 1, .p (.mv), [.t 123], none, 0, 0⟩])))
 (.seq (.reg [⟨.t 124, .p (.mv), [.l 17], none, 0, 0⟩, ⟨.t 125, .p (.mv), [.l 18], none, 0, 0⟩, ⟨.t 126, .p (.bin .geq), [.t 124, .t 125], none, 0, 0⟩, ⟨.l 8, .p (.mv), [.t 126], none, 0, 0⟩])
 (.seq (.reg [⟨.t 127, .p (.mv), [.l 0], none, 0, 0⟩, ⟨.t 128, .p (.mv), [.l 14], none, 0, 0⟩, ⟨.t 129, .p (.bin .add), [.t 128, .c (.int .i64 1)], none, 0, 0⟩, ⟨.t 130, .p (.mv), [.l 2], none, 0, 0⟩, ⟨.t 131, .p (.mv), [.l 3], none, 0, 0⟩, ⟨.t 132, .call 408, [.t 127, .t 129, .t 130, .t 131], none, 0, 0⟩])
 (.reg [⟨.t 133, .p (.mv), [.l 14], none, 0, 0⟩, ⟨.l 2, .p (.mv), [.t 133], none, 0, 0⟩])))))))))))))))))))))),
 []⟩
theorem cf408_ok : compF TP Tryz.f408 = some cf408 := by kernel_rfl
def cf409 : CF := ⟨1, (.seq (.reg [⟨.l 2, .p (.mv), [.c (.int .i64 0)], none, 0, 0⟩])
 (.seq (.cond (.c (.bool false)) (.seq (.reg [⟨.t 3, .p (.mv), [.l 0], none, 0, 0⟩, ⟨.t 4, .p (.toInt .u32), [.t 3], none, 0, 0⟩, ⟨.t 5, .call 457, [.t 4], none, 0, 0⟩, ⟨.l 2, .p (.mv), [.t 5], none, 0, 0⟩])
 .ret)
 .skip)
 (.seq (.reg [⟨.t 6, .p (.mv), [.l 0], none, 0, 0⟩, ⟨.t 7, .call 458, [.t 6], none, 0, 0⟩, ⟨.l 2, .p (.mv), [.t 7], none, 0, 0⟩])
 .ret))),
 [.tmp (.l 2)]⟩
theorem cf409_ok : compF TP Tryz.f409 = some cf409 := by kernel_rfl
def cf410 : CF := ⟨1, (.seq (.reg [⟨.l 1, .a (.box), [.l 0], none, 0, 0⟩, ⟨.l 2, .p (.mv), [.c (.bool false)], none, 0, 0⟩])
 (.seq (.reg [⟨.t 6, .r (.load true 3), [.l 1], none, 0, 0⟩, ⟨.t 7, .call 267, [.t 6], none, 0, 0⟩, ⟨.t 5, .p (.mv), [.t 7], none, 0, 0⟩, ⟨.t 8, .p (.ext 0), [.t 5], none, 0, 0⟩, ⟨.t 9, .p (.ext 1), [.t 5], none, 0, 0⟩, ⟨.t 3, .a (.alloc [.nils, .nils, .nils, .nils]), [], none, 0, 0⟩, ⟨.no, .e (.store 4), [.t 3, .t 8], none, 0, 0⟩, ⟨.l 4, .p (.mv), [.t 9], none, 0, 0⟩])
 (.seq (.reg [⟨.t 10, .p (.mv), [.l 4], none, 0, 0⟩, ⟨.l 2, .p (.mv), [.t 10], none, 0, 0⟩])
 .ret))),
 [.tmp (.l 2)]⟩
theorem cf410_ok : compF TP Tryz.f410 = some cf410 := by kernel_rfl
def cf411 : CF := ⟨1, (.seq (.reg [⟨.l 2, .p (.mv), [.c .nils], none, 0, 0⟩])
 (.seq (.reg [⟨.t 7, .p (.mv), [.l 0], none, 0, 0⟩, ⟨.t 8, .p (.leng .sl), [.t 7], none, 0, 0⟩, ⟨.t 9, .a (.mks [(.bool false)] 1), [.t 8, .t 8], none, 0, 0⟩, ⟨.l 3, .p (.mv), [.t 9], none, 0, 0⟩])
 (.seq (.seq (.reg [⟨.l 4, .p (.mv), [.c (.int .i64 0)], none, 0, 0⟩])
 (.block 0 (.loop (.seq (.seq (.reg [⟨.t 10, .p (.mv), [.l 4], none, 0, 0⟩, ⟨.t 11, .p (.mv), [.l 0], none, 0, 0⟩, ⟨.t 12, .p (.leng .sl), [.t 11], none, 0, 0⟩, ⟨.l 13, .p (.bin .lss), [.t 10, .t 12], none, 0, 0⟩])
 (.cond (.l 13) .skip
 (.exit 0)))
 (.block 1 (.seq (.reg [⟨.t 14, .p (.mv), [.l 3], none, 0, 0⟩, ⟨.t 15, .p (.mv), [.l 4], none, 0, 0⟩, ⟨.t 16, .p (.ixsl 1), [.t 14, .t 15], none, 0, 0⟩, ⟨.no, .e (.store 1), [.t 16, .c (.bool true)], none, 0, 0⟩])
 (.seq (.reg [⟨.t 18, .p (.mv), [.l 0], none, 0, 0⟩, ⟨.t 19, .p (.mv), [.l 4], none, 0, 0⟩, ⟨.t 20, .call 415, [.t 18, .t 19], none, 0, 0⟩, ⟨.t 17, .p (.mv), [.t 20], none, 0, 0⟩, ⟨.t 21, .p (.ext 0), [.t 17], none, 0, 0⟩, ⟨.t 22, .p (.ext 1), [.t 17], none, 0, 0⟩, ⟨.l 5, .p (.mv), [.t 21], none, 0, 0⟩, ⟨.t 6, .p (.mv), [.t 22], none, 0, 0⟩])
 (.reg [⟨.t 23, .p (.mv), [.l 4], none, 0, 0⟩, ⟨.t 24, .p (.mv), [.l 5], none, 0, 0⟩, ⟨.t 25, .p (.leng .sl), [.t 24], none, 0, 0⟩, ⟨.t 26, .p (.bin .add), [.t 23, .t 25], none, 0, 0⟩, ⟨.l 4, .p (.mv), [.t 26], none, 0, 0⟩]))))))))
 (.seq (.reg [⟨.t 27, .p (.mv), [.l 3], none, 0, 0⟩, ⟨.l 2, .p (.mv), [.t 27], none, 0, 0⟩])
 .ret)))),
 [.tmp (.l 2)]⟩
theorem cf411_ok : compF TP Tryz.f411 = some cf411 := by kernel_rfl
def cf412 : CF := ⟨4, (.seq (.reg [⟨.l 5, .p (.mv), [.c (.bool false)], none, 0, 0⟩])
 (.seq (.reg [⟨.t 12, .p (.mv), [.l 0], none, 0, 0⟩, ⟨.t 13, .call 189, [.t 12], none, 0, 0⟩, ⟨.t 11, .p (.mv), [.t 13], none, 0, 0⟩, ⟨.t 14, .p (.ext 0), [.t 11], none, 0, 0⟩, ⟨.t 15, .p (.ext 1), [.t 11], none, 0, 0⟩, ⟨.t 16, .p (.ext 2), [.t 11], none, 0, 0⟩, ⟨.l 6, .p (.mv), [.t 14], none, 0, 0⟩, ⟨.l 7, .p (.mv), [.t 15], none, 0, 0⟩, ⟨.l 8, .p (.mv), [.t 16], none, 0, 0⟩])
 (.seq (.seq (.reg [⟨.t 17, .p (.mv), [.l 8], none, 0, 0⟩, ⟨.l 18, .p (.un .not), [.t 17], none, 0, 0⟩])
 (.cond (.l 18) (.seq (.reg [⟨.t 19, .p (.mv), [.l 0], none, 0, 0⟩, ⟨.t 20, .call 192, [.t 19], none, 0, 0⟩, ⟨.t 21, .p (.bin .neq), [.t 20, .c (.int .i64 3)], none, 0, 0⟩, ⟨.t 22, .p (.mv), [.t 21], none, 0, 0⟩, ⟨.t 23, .p (.mv), [.l 0], (some (.t 22, false)), 0, 0⟩, ⟨.t 24, .call 330, [.t 23], (some (.t 22, false)), 0, 0⟩, ⟨.t 25, .p (.un .not), [.t 24], (some (.t 22, false)), 0, 0⟩, ⟨.t 26, .p (.pick), [.t 22, .c (.bool true), .t 25], none, 0, 0⟩, ⟨.l 5, .p (.mv), [.t 26], none, 0, 0⟩])
 .ret)
 .skip))
 (.seq (.regD [⟨.t 27, .r (.load true 3), [.l 1], none, 0, 0⟩, ⟨.t 28, .p (.mv), [.l 6], none, 0, 0⟩, ⟨.t 30, .r (.load false 1), [.l 2], none, 0, 1⟩, ⟨.t 29, .call 413, [.t 27, .t 28], none, 0, 1⟩, ⟨.l 9, .p (.mv), [.t 29], none, 1, 1⟩, ⟨.l 10, .p (.mv), [.t 30], none, 1, 1⟩])
 (.seq (.seq (.reg [⟨.l 31, .p (.mv), [.l 6], none, 0, 0⟩])
 (.cond (.l 31) (.reg [⟨.t 32, .r (.load false 1), [.l 3], none, 0, 0⟩, ⟨.l 10, .p (.mv), [.t 32], none, 0, 0⟩])
 .skip))
 (.seq (.reg [⟨.t 33, .p (.mv), [.l 7], none, 0, 0⟩, ⟨.t 34, .p (.mv), [.l 9], none, 0, 0⟩, ⟨.t 35, .p (.leng .sl), [.t 34], none, 0, 0⟩, ⟨.t 36, .p (.bin .geq), [.t 33, .t 35], none, 0, 0⟩, ⟨.t 37, .p (.mv), [.t 36], none, 0, 0⟩, ⟨.t 38, .p (.mv), [.l 10], (some (.t 37, false)), 0, 0⟩, ⟨.t 39, .p (.mv), [.l 7], (some (.t 37, false)), 0, 0⟩, ⟨.t 40, .p (.ixsl 1), [.t 38, .t 39], (some (.t 37, false)), 0, 0⟩, ⟨.t 41, .r (.load false 1), [.t 40], (some (.t 37, false)), 0, 0⟩, ⟨.t 42, .p (.un .not), [.t 41], (some (.t 37, false)), 0, 0⟩, ⟨.t 43, .p (.pick), [.t 37, .c (.bool true), .t 42], none, 0, 0⟩, ⟨.t 44, .p (.mv), [.t 43], none, 0, 0⟩, ⟨.t 45, .p (.mv), [.l 9], (some (.t 44, false)), 0, 0⟩, ⟨.t 46, .p (.mv), [.l 7], (some (.t 44, false)), 0, 0⟩, ⟨.t 47, .p (.ixsl 1), [.t 45, .t 46], (some (.t 44, false)), 0, 0⟩, ⟨.t 48, .r (.load false 1), [.t 47], (some (.t 44, false)), 0, 0⟩, ⟨.t 49, .call 192, [.t 48], (some (.t 44, false)), 0, 0⟩, ⟨.t 50, .p (.bin .eql), [.t 49, .c (.int .i64 0)], (some (.t 44, false)), 0, 0⟩, ⟨.t 51, .p (.mv), [.l 0], (some (.t 44, false)), 0, 0⟩, ⟨.t 52, .call 192, [.t 51], (some (.t 44, false)), 0, 0⟩, ⟨.t 53, .p (.bin .eql), [.t 52, .c (.int .i64 2)], (some (.t 44, false)), 0, 0⟩, ⟨.t 54, .p (.eqd .b true), [.t 50, .t 53], (some (.t 44, false)), 0, 0⟩, ⟨.t 55, .p (.pick), [.t 44, .c (.bool true), .t 54], none, 0, 0⟩, ⟨.l 5, .p (.mv), [.t 55], none, 0, 0⟩])
 .ret)))))),
 [.tmp (.l 5)]⟩
theorem cf412_ok : compF TP Tryz.f412 = some cf412 := by kernel_rfl
def cf414 : CF := ⟨2, (.seq (.reg [⟨.l 4, .p (.mv), [.c (.int .u64 0)], none, 0, 0⟩])
 (.seq (.reg [⟨.t 17, .p (.mv), [.l 1], none, 0, 0⟩, ⟨.t 18, .call 189, [.t 17], none, 0, 0⟩, ⟨.t 16, .p (.mv), [.t 18], none, 0, 0⟩, ⟨.t 19, .p (.ext 0), [.t 16], none, 0, 0⟩, ⟨.t 20, .p (.ext 1), [.t 16], none, 0, 0⟩, ⟨.t 21, .p (.ext 2), [.t 16], none, 0, 0⟩, ⟨.l 5, .p (.mv), [.t 19], none, 0, 0⟩, ⟨.l 6, .p (.mv), [.t 20], none, 0, 0⟩, ⟨.l 7, .p (.mv), [.t 21], none, 0, 0⟩])
 (.seq (.seq (.reg [⟨.t 22, .p (.mv), [.l 7], none, 0, 0⟩, ⟨.t 23, .p (.un .not), [.t 22], none, 0, 0⟩, ⟨.t 24, .p (.mv), [.t 23], none, 0, 0⟩, ⟨.t 25, .p (.mv), [.l 5], (some (.t 24, false)), 0, 0⟩, ⟨.t 26, .p (.mv), [.t 25], (some (.t 24, false)), 0, 0⟩, ⟨.t 27, .p (.mv), [.l 0], (some (.t 26, true)), 0, 0⟩, ⟨.t 28, .p (.nilc), [.t 27], (some (.t 26, true)), 0, 0⟩, ⟨.t 29, .p (.fa 6), [.t 28], (some (.t 26, true)), 0, 0⟩, ⟨.t 30, .r (.load false 1), [.t 29], (some (.t 26, true)), 0, 0⟩, ⟨.t 31, .p (.un .not), [.t 30], (some (.t 26, true)), 0, 0⟩, ⟨.t 32, .p (.pick), [.t 26, .t 31, .c (.bool false)], (some (.t 24, false)), 0, 0⟩, ⟨.l 33, .p (.pick), [.t 24, .c (.bool true), .t 32], none, 0, 0⟩])
 (.cond (.l 33) (.seq (.reg [⟨.t 34, .p (.mv), [.l 1], none, 0, 0⟩, ⟨.l 4, .p (.mv), [.t 34], none, 0, 0⟩])
 .ret)
 .skip))
 (.seq (.seq (.reg [⟨.t 36, .p (.mv), [.l 0], none, 0, 0⟩, ⟨.t 37, .p (.nilc), [.t 36], none, 0, 0⟩, ⟨.t 38, .p (.fa 7), [.t 37], none, 0, 0⟩, ⟨.t 39, .r (.load false 1), [.t 38], none, 0, 0⟩, ⟨.t 40, .p (.mv), [.l 1], none, 0, 0⟩, ⟨.t 41, .r (.lookup (.one .i) true (.int .u64 0)), [.t 39, .t 40], none, 0, 0⟩, ⟨.t 35, .p (.mv), [.t 41], none, 0, 0⟩, ⟨.t 42, .p (.ext 0), [.t 35], none, 0, 0⟩, ⟨.t 43, .p (.ext 1), [.t 35], none, 0, 0⟩, ⟨.l 8, .p (.mv), [.t 42], none, 0, 0⟩, ⟨.l 9, .p (.mv), [.t 43], none, 0, 0⟩])
 (.seq (.reg [⟨.l 44, .p (.mv), [.l 9], none, 0, 0⟩])
 (.cond (.l 44) (.seq (.reg [⟨.t 45, .p (.mv), [.l 8], none, 0, 0⟩, ⟨.l 4, .p (.mv), [.t 45], none, 0, 0⟩])
 .ret)
 .skip)))
 (.seq (.reg [⟨.t 47, .p (.mv), [.l 0], none, 0, 0⟩, ⟨.t 48, .p (.nilc), [.t 47], none, 0, 0⟩, ⟨.t 49, .p (.fa 3), [.t 48], none, 0, 0⟩, ⟨.t 50, .r (.load true 3), [.t 49], none, 0, 0⟩, ⟨.t 51, .p (.mv), [.l 5], none, 0, 0⟩, ⟨.t 52, .call 413, [.t 50, .t 51], none, 0, 0⟩, ⟨.t 53, .p (.mv), [.l 6], none, 0, 0⟩, ⟨.t 54, .call 415, [.t 52, .t 53], none, 0, 0⟩, ⟨.t 46, .p (.mv), [.t 54], none, 0, 0⟩, ⟨.t 55, .p (.ext 0), [.t 46], none, 0, 0⟩, ⟨.t 56, .p (.ext 1), [.t 46], none, 0, 0⟩, ⟨.l 10, .p (.mv), [.t 55], none, 0, 0⟩, ⟨.t 11, .p (.mv), [.t 56], none, 0, 0⟩])
 (.seq (.reg [⟨.t 57, .p (.mv), [.l 0], none, 0, 0⟩, ⟨.t 58, .p (.nilc), [.t 57], none, 0, 0⟩, ⟨.t 59, .p (.fa 0), [.t 58], none, 0, 0⟩, ⟨.t 60, .p (.fa 0), [.t 59], none, 0, 0⟩, ⟨.l 12, .p (.mv), [.t 60], none, 0, 0⟩])
 (.seq (.reg [⟨.t 61, .p (.mv), [.l 0], none, 0, 0⟩, ⟨.t 62, .p (.nilc), [.t 61], none, 0, 0⟩, ⟨.t 63, .p (.fa 6), [.t 62], none, 0, 0⟩, ⟨.t 64, .r (.load false 1), [.t 63], none, 0, 0⟩, ⟨.t 65, .p (.mv), [.t 64], none, 0, 0⟩, ⟨.t 66, .p (.mv), [.l 5], (some (.t 65, false)), 0, 0⟩, ⟨.t 67, .p (.pick), [.t 65, .c (.bool true), .t 66], none, 0, 0⟩, ⟨.t 68, .p (.mv), [.t 67], none, 0, 0⟩, ⟨.t 69, .p (.mv), [.l 6], (some (.t 68, false)), 0, 0⟩, ⟨.t 70, .p (.mv), [.l 0], (some (.t 68, false)), 0, 0⟩, ⟨.t 71, .p (.nilc), [.t 70], (some (.t 68, false)), 0, 0⟩, ⟨.t 72, .p (.fa 3), [.t 71], (some (.t 68, false)), 0, 0⟩, ⟨.t 73, .p (.fa 2), [.t 72], (some (.t 68, false)), 0, 0⟩, ⟨.t 74, .r (.load false 1), [.t 73], (some (.t 68, false)), 0, 0⟩, ⟨.t 75, .p (.bin .lss), [.t 69, .t 74], (some (.t 68, false)), 0, 0⟩, ⟨.t 76, .p (.pick), [.t 68, .c (.bool true), .t 75], none, 0, 0⟩, ⟨.l 13, .p (.mv), [.t 76], none, 0, 0⟩])
 (.seq (.seq (.reg [⟨.l 77, .p (.mv), [.l 13], none, 0, 0⟩])
 (.cond (.l 77) (.reg [⟨.t 78, .p (.mv), [.l 0], none, 0, 0⟩, ⟨.t 79, .p (.nilc), [.t 78], none, 0, 0⟩, ⟨.t 80, .p (.fa 0), [.t 79], none, 0, 0⟩, ⟨.t 81, .p (.fa 1), [.t 80], none, 0, 0⟩, ⟨.l 12, .p (.mv), [.t 81], none, 0, 0⟩])
 .skip))
 (.seq (.reg [⟨.t 83, .p (.mv), [.l 13], none, 0, 0⟩, ⟨.t 84, .p (.mv), [.l 12], none, 0, 0⟩, ⟨.t 85, .p (.nilc), [.t 84], none, 0, 0⟩, ⟨.t 86, .r (.load false 1), [.t 85], none, 0, 0⟩, ⟨.t 87, .p (.leng .sl), [.t 86], none, 0, 0⟩, ⟨.t 88, .call 286, [.t 83, .t 87], none, 0, 0⟩, ⟨.t 82, .p (.mv), [.t 88], none, 0, 0⟩, ⟨.t 89, .p (.ext 0), [.t 82], none, 0, 0⟩, ⟨.t 90, .p (.ext 1), [.t 82], none, 0, 0⟩, ⟨.l 14, .p (.mv), [.t 89], none, 0, 0⟩, ⟨.t 15, .p (.mv), [.t 90], none, 0, 0⟩])
 (.seq (.seq (.reg [⟨.t 91, .p (.mv), [.l 1], none, 0, 0⟩, ⟨.t 92, .call 192, [.t 91], none, 0, 0⟩, ⟨.l 93, .p (.bin .eql), [.t 92, .c (.int .i64 1)], none, 0, 0⟩])
 (.cond (.l 93) (.reg [⟨.t 95, .p (.mv), [.l 13], none, 0, 0⟩, ⟨.t 96, .p (.mv), [.l 12], none, 0, 0⟩, ⟨.t 97, .p (.nilc), [.t 96], none, 0, 0⟩, ⟨.t 98, .r (.load false 1), [.t 97], none, 0, 0⟩, ⟨.t 99, .p (.leng .sl), [.t 98], none, 0, 0⟩, ⟨.t 100, .call 288, [.t 95, .t 99], none, 0, 0⟩, ⟨.t 94, .p (.mv), [.t 100], none, 0, 0⟩, ⟨.t 101, .p (.ext 0), [.t 94], none, 0, 0⟩, ⟨.t 102, .p (.ext 1), [.t 94], none, 0, 0⟩, ⟨.l 14, .p (.mv), [.t 101], none, 0, 0⟩])
 .skip))
 (.seq (.reg [⟨.t 103, .p (.mv), [.l 12], none, 0, 0⟩, ⟨.t 104, .p (.mv), [.l 12], none, 0, 0⟩, ⟨.t 105, .p (.nilc), [.t 104], none, 0, 0⟩, ⟨.t 106, .r (.load false 1), [.t 105], none, 0, 0⟩, ⟨.t 107, .p (.mv), [.l 10], none, 0, 0⟩, ⟨.t 108, .e (.append 1 8 none), [.t 106, .t 107], none, 0, 0⟩, ⟨.t 109, .p (.nilc), [.t 103], none, 0, 0⟩, ⟨.no, .e (.store 1), [.t 109, .t 108], none, 0, 0⟩])
 (.seq (.reg [⟨.t 110, .p (.mv), [.l 0], none, 0, 0⟩, ⟨.t 111, .p (.nilc), [.t 110], none, 0, 0⟩, ⟨.t 112, .p (.fa 7), [.t 111], none, 0, 0⟩, ⟨.t 113, .r (.load false 1), [.t 112], none, 0, 0⟩, ⟨.t 114, .p (.mv), [.l 1], none, 0, 0⟩, ⟨.t 115, .p (.mv), [.l 14], none, 0, 0⟩, ⟨.no, .e (.mapup (.one .i)), [.t 113, .t 114, .t 115], none, 0, 0⟩])
 (.seq (.reg [⟨.t 116, .p (.mv), [.l 0], none, 0, 0⟩, ⟨.t 117, .p (.mv), [.l 0], none, 0, 0⟩, ⟨.t 118, .p (.nilc), [.t 117], none, 0, 0⟩, ⟨.t 119, .p (.fa 8), [.t 118], none, 0, 0⟩, ⟨.t 120, .r (.load false 1), [.t 119], none, 0, 0⟩, ⟨.t 121, .p (.mv), [.l 14], none, 0, 0⟩, ⟨.t 122, .a (.bslice [(.int .u64 0)] 1 1 [(0, 1)]), [.t 121], none, 0, 0⟩, ⟨.t 123, .e (.append 1 8 none), [.t 120, .t 122], none, 0, 0⟩, ⟨.t 124, .p (.nilc), [.t 116], none, 0, 0⟩, ⟨.t 125, .p (.fa 8), [.t 124], none, 0, 0⟩, ⟨.no, .e (.store 1), [.t 125, .t 123], none, 0, 0⟩])
 (.seq (.reg [⟨.t 126, .p (.mv), [.l 14], none, 0, 0⟩, ⟨.l 4, .p (.mv), [.t 126], none, 0, 0⟩])
 .ret)))))))))))))),
 [.tmp (.l 4)]⟩
theorem cf414_ok : compF TP Tryz.f414 = some cf414 := by kernel_rfl
def cf422 : CF := ⟨2, (.seq (.reg [⟨.l 2, .a (.box), [.l 0], none, 0, 0⟩, ⟨.l 3, .a (.alloc [(.int .i64 0), (.int .i64 0), (.int .i64 0), (.str 0 0), (.str 0 0), (.int .i64 0), .nils, (.str 0 0), (.int .i64 0)]), [], none, 0, 0⟩, ⟨.l 4, .a (.alloc [(.str 0 0), (.int .i64 0), (.int .i64 0), (.int .i64 0), (.str 0 0), (.str 0 0), (.int .i64 0), .nils, (.str 0 0), (.int .i64 0)]), [], none, 0, 0⟩])
 (.seq (.reg [⟨.t 9, .r (.load true 10), [.l 2], none, 0, 0⟩, ⟨.t 10, .call 423, [.t 9], none, 0, 0⟩, ⟨.t 8, .p (.mv), [.t 10], none, 0, 0⟩, ⟨.t 11, .p (.ext 0), [.t 8], none, 0, 0⟩, ⟨.t 12, .p (.ext 1), [.t 8], none, 0, 0⟩, ⟨.t 13, .p (.ext 2), [.t 8], none, 0, 0⟩, ⟨.l 5, .p (.mv), [.t 11], none, 0, 0⟩, ⟨.l 6, .p (.mv), [.t 12], none, 0, 0⟩, ⟨.l 7, .p (.mv), [.t 13], none, 0, 0⟩])
 (.seq (.seq (.reg [⟨.t 14, .p (.mv), [.l 7], none, 0, 0⟩, ⟨.l 15, .p (.un .not), [.t 14], none, 0, 0⟩])
 (.cond (.l 15) (.seq (.reg [⟨.t 16, .call 225, [.c (.str 8 7526756817224098146)], none, 0, 0⟩, ⟨.t 17, .p (.ext 0), [.t 16], none, 0, 0⟩, ⟨.t 18, .p (.ext 1), [.t 16], none, 0, 0⟩, ⟨.no, .e (.store 9), [.l 3, .t 17], none, 0, 0⟩, ⟨.no, .e (.store 10), [.l 4, .t 18], none, 0, 0⟩])
 .ret)
 .skip))
 (.seq (.reg [⟨.t 19, .r (.load false 1), [.l 1], none, 0, 0⟩, ⟨.t 20, .p (.mv), [.l 5], none, 0, 0⟩, ⟨.t 21, .p (.mv), [.l 6], none, 0, 0⟩, ⟨.t 22, .callv, [.t 19, .t 20, .t 21], none, 0, 0⟩, ⟨.t 23, .p (.ext 0), [.t 22], none, 0, 0⟩, ⟨.t 24, .p (.ext 1), [.t 22], none, 0, 0⟩, ⟨.t 25, .call 424, [.t 23, .t 24], none, 0, 0⟩, ⟨.t 26, .p (.ext 0), [.t 25], none, 0, 0⟩, ⟨.t 27, .p (.ext 1), [.t 25], none, 0, 0⟩, ⟨.no, .e (.store 9), [.l 3, .t 26], none, 0, 0⟩, ⟨.no, .e (.store 10), [.l 4, .t 27], none, 0, 0⟩])
 .ret)))),
 [.cell (.l 3) true 9, .cell (.l 4) true 10]⟩
theorem cf422_ok : compF TP Tryz.f422 = some cf422 := by kernel_rfl
def cf423 : CF := ⟨1, (.seq (.reg [⟨.l 1, .a (.box), [.l 0], none, 0, 0⟩, ⟨.l 2, .p (.mv), [.c (.int .i64 0)], none, 0, 0⟩, ⟨.l 3, .p (.mv), [.c (.int .i64 0)], none, 0, 0⟩, ⟨.l 4, .p (.mv), [.c (.bool false)], none, 0, 0⟩])
 (.seq (.seq (.reg [⟨.t 7, .p (.fa 9), [.l 1], none, 0, 0⟩, ⟨.l 8, .r (.load false 1), [.t 7], none, 0, 0⟩, ⟨.l 9, .p (.leng .sl), [.l 8], none, 0, 0⟩, ⟨.l 10, .p (.mv), [.c (.int .i64 0)], none, 0, 0⟩])
 (.block 0 (.loop (.seq (.reg [⟨.l 11, .p (.bin .lss), [.l 10, .l 9], none, 0, 0⟩])
 (.seq (.cond (.l 11) .skip
 (.exit 0))
 (.seq (.block 1 (.seq (.reg [⟨.t 12, .p (.mv), [.l 10], none, 0, 0⟩, ⟨.t 13, .p (.ixsl 9), [.l 8, .l 10], none, 0, 0⟩, ⟨.t 14, .r (.load true 9), [.t 13], none, 0, 0⟩, ⟨.l 6, .a (.alloc [(.int .i64 0), (.int .i64 0), (.int .i64 0), (.str 0 0), (.str 0 0), (.int .i64 0), .nils, (.str 0 0), (.int .i64 0)]), [], none, 0, 0⟩, ⟨.l 5, .p (.mv), [.t 12], none, 0, 0⟩, ⟨.no, .e (.store 9), [.l 6, .t 14], none, 0, 0⟩])
 (.seq (.seq (.reg [⟨.t 15, .p (.fa 0), [.l 6], none, 0, 0⟩, ⟨.t 16, .r (.load false 1), [.t 15], none, 0, 0⟩, ⟨.l 17, .p (.bin .neq), [.t 16, .c (.int .i64 1)], none, 0, 0⟩])
 (.cond (.l 17) (.seq (.reg [⟨.l 2, .p (.mv), [.c (.int .i64 0)], none, 0, 0⟩, ⟨.l 3, .p (.mv), [.c (.int .i64 0)], none, 0, 0⟩, ⟨.l 4, .p (.mv), [.c (.bool false)], none, 0, 0⟩])
 .ret)
 .skip))
 (.seq (.seq (.reg [⟨.t 18, .p (.mv), [.l 5], none, 0, 0⟩, ⟨.l 19, .p (.bin .eql), [.t 18, .c (.int .i64 0)], none, 0, 0⟩])
 (.cond (.l 19) (.reg [⟨.t 20, .p (.fa 1), [.l 6], none, 0, 0⟩, ⟨.t 21, .r (.load false 1), [.t 20], none, 0, 0⟩, ⟨.l 2, .p (.mv), [.t 21], none, 0, 0⟩])
 .skip))
 (.reg [⟨.t 22, .p (.fa 1), [.l 6], none, 0, 0⟩, ⟨.t 23, .r (.load false 1), [.t 22], none, 0, 0⟩, ⟨.l 3, .p (.mv), [.t 23], none, 0, 0⟩])))))
 (.reg [⟨.t 24, .p (.bin .add), [.l 10, .c (.int .i64 1)], none, 0, 0⟩, ⟨.l 10, .p (.mv), [.t 24], none, 0, 0⟩])))))))
 (.seq (.reg [⟨.t 25, .p (.mv), [.l 2], none, 0, 0⟩, ⟨.t 26, .p (.mv), [.l 3], none, 0, 0⟩, ⟨.l 2, .p (.mv), [.t 25], none, 0, 0⟩, ⟨.l 3, .p (.mv), [.t 26], none, 0, 0⟩, ⟨.l 4, .p (.mv), [.c (.bool true)], none, 0, 0⟩])
 .ret))),
 [.tmp (.l 2), .tmp (.l 3), .tmp (.l 4)]⟩
theorem cf423_ok : compF TP Tryz.f423 = some cf423 := by kernel_rfl
def cf424 : CF := ⟨2, (.seq (.reg [⟨.l 4, .a (.alloc [(.int .i64 0), (.int .i64 0), (.int .i64 0), (.str 0 0), (.str 0 0), (.int .i64 0), .nils, (.str 0 0), (.int .i64 0)]), [], none, 0, 0⟩, ⟨.l 5, .a (.alloc [(.str 0 0), (.int .i64 0), (.int .i64 0), (.int .i64 0), (.str 0 0), (.str 0 0), (.int .i64 0), .nils, (.str 0 0), (.int .i64 0)]), [], none, 0, 0⟩])
 (.seq (.seq (.reg [⟨.l 6, .p (.mv), [.l 1], none, 0, 0⟩])
 (.block 0 (.seq (.reg [⟨.t 8, .p (.bin .eql), [.l 6, .c (.int .i64 0)], none, 0, 0⟩, ⟨.l 7, .p (.mv), [.t 8], none, 0, 0⟩])
 (.cond (.l 7) (.seq (.reg [⟨.t 9, .p (.mv), [.l 0], none, 0, 0⟩, ⟨.t 10, .call 158, [.t 9], none, 0, 0⟩, ⟨.t 11, .call 227, [.t 10], none, 0, 0⟩, ⟨.t 12, .p (.ext 0), [.t 11], none, 0, 0⟩, ⟨.t 13, .p (.ext 1), [.t 11], none, 0, 0⟩, ⟨.no, .e (.store 9), [.l 4, .t 12], none, 0, 0⟩, ⟨.no, .e (.store 10), [.l 5, .t 13], none, 0, 0⟩])
 .ret)
 (.seq (.reg [⟨.t 15, .p (.bin .eql), [.l 6, .c (.int .i64 7)], none, 0, 0⟩, ⟨.l 14, .p (.mv), [.t 15], none, 0, 0⟩])
 (.cond (.l 14) (.seq (.reg [⟨.t 16, .call 225, [.c (.str 12 36027715032999405127646542195)], none, 0, 0⟩, ⟨.t 17, .p (.ext 0), [.t 16], none, 0, 0⟩, ⟨.t 18, .p (.ext 1), [.t 16], none, 0, 0⟩, ⟨.no, .e (.store 9), [.l 4, .t 17], none, 0, 0⟩, ⟨.no, .e (.store 10), [.l 5, .t 18], none, 0, 0⟩])
 .ret)
 .skip))))))
 (.seq (.reg [⟨.t 19, .call 225, [.c (.str 8 7526756817224098146)], none, 0, 0⟩, ⟨.t 20, .p (.ext 0), [.t 19], none, 0, 0⟩, ⟨.t 21, .p (.ext 1), [.t 19], none, 0, 0⟩, ⟨.no, .e (.store 9), [.l 4, .t 20], none, 0, 0⟩, ⟨.no, .e (.store 10), [.l 5, .t 21], none, 0, 0⟩])
 .ret))),
 [.cell (.l 4) true 9, .cell (.l 5) true 10]⟩
theorem cf424_ok : compF TP Tryz.f424 = some cf424 := by kernel_rfl
def cf426 : CF := ⟨3, (.seq (.reg [⟨.l 3, .p (.mv), [.c (.bool false)], none, 0, 0⟩])
 (.seq (.reg [⟨.t 4, .r (.load false 1), [.l 0], none, 0, 0⟩, ⟨.t 5, .p (.bin .lss), [.t 4, .c (.int .i64 0)], none, 0, 0⟩, ⟨.t 6, .r (.load false 1), [.l 1], none, 0, 0⟩, ⟨.t 7, .p (.bin .lss), [.t 6, .c (.int .i64 0)], none, 0, 0⟩, ⟨.t 8, .p (.eqd .b true), [.t 5, .t 7], none, 0, 0⟩, ⟨.t 9, .p (.mv), [.t 8], none, 0, 0⟩, ⟨.t 10, .r (.load false 1), [.l 2], (some (.t 9, true)), 0, 0⟩, ⟨.t 11, .p (.bin .lss), [.t 10, .c (.int .i64 0)], (some (.t 9, true)), 0, 0⟩, ⟨.t 12, .r (.load false 1), [.l 0], (some (.t 9, true)), 0, 0⟩, ⟨.t 13, .p (.bin .lss), [.t 12, .c (.int .i64 0)], (some (.t 9, true)), 0, 0⟩, ⟨.t 14, .p (.eqd .b true), [.t 11, .t 13], (some (.t 9, true)), 0, 0⟩, ⟨.t 15, .p (.pick), [.t 9, .t 14, .c (.bool false)], none, 0, 0⟩, ⟨.l 3, .p (.mv), [.t 15], none, 0, 0⟩])
 .ret)),
 [.tmp (.l 3)]⟩
theorem cf426_ok : compF TP Tryz.f426 = some cf426 := by kernel_rfl
def cf448 : CF := ⟨3, (.seq (.reg [⟨.t 8, .p (.mv), [.l 1], none, 0, 0⟩, ⟨.t 9, .p (.bin .add), [.t 8, .c (.int .i64 1)], none, 0, 0⟩, ⟨.l 6, .p (.mv), [.t 9], none, 0, 0⟩])
 (.block 0 (.loop (.seq (.seq (.reg [⟨.t 10, .p (.mv), [.l 6], none, 0, 0⟩, ⟨.t 11, .p (.mv), [.l 2], none, 0, 0⟩, ⟨.l 12, .p (.bin .lss), [.t 10, .t 11], none, 0, 0⟩])
 (.cond (.l 12) .skip
 (.exit 0)))
 (.seq (.block 1 (.seq (.reg [⟨.t 15, .p (.mv), [.l 6], none, 0, 0⟩, ⟨.l 7, .p (.mv), [.t 15], none, 0, 0⟩])
 (.block 2 (.loop (.seq (.seq (.regD [⟨.t 16, .p (.mv), [.l 7], none, 0, 0⟩, ⟨.t 17, .p (.mv), [.l 1], none, 0, 0⟩, ⟨.t 18, .p (.bin .gtr), [.t 16, .t 17], none, 0, 0⟩, ⟨.t 19, .p (.mv), [.t 18], none, 0, 0⟩, ⟨.t 20, .p (.mv), [.l 0], (some (.t 19, true)), 0, 0⟩, ⟨.t 21, .p (.mv), [.l 7], (some (.t 19, true)), 0, 0⟩, ⟨.t 22, .p (.ixsl 1), [.t 20, .t 21], (some (.t 19, true)), 0, 0⟩, ⟨.t 23, .r (.load false 1), [.t 22], (some (.t 19, true)), 0, 0⟩, ⟨.t 24, .p (.mv), [.l 0], (some (.t 19, true)), 0, 0⟩, ⟨.t 25, .p (.mv), [.l 7], (some (.t 19, true)), 0, 0⟩, ⟨.t 26, .p (.bin .sub), [.t 25, .c (.int .i64 1)], (some (.t 19, true)), 0, 0⟩, ⟨.t 27, .p (.ixsl 1), [.t 24, .t 26], (some (.t 19, true)), 0, 0⟩, ⟨.t 28, .r (.load false 1), [.t 27], (some (.t 19, true)), 0, 0⟩, ⟨.t 29, .call 454, [.t 23, .t 28], (some (.t 19, true)), 0, 1⟩, ⟨.l 30, .p (.pick), [.t 19, .t 29, .c (.bool false)], none, 1, 1⟩])
 (.cond (.l 30) .skip
 (.exit 2)))
 (.seq (.block 3 (.regD [⟨.t 33, .p (.mv), [.l 0], none, 0, 0⟩, ⟨.t 34, .p (.mv), [.l 7], none, 0, 0⟩, ⟨.t 35, .p (.mv), [.l 0], none, 0, 1⟩, ⟨.t 36, .p (.mv), [.l 7], none, 0, 1⟩, ⟨.t 37, .p (.bin .sub), [.t 36, .c (.int .i64 1)], none, 0, 1⟩, ⟨.t 38, .p (.mv), [.l 0], none, 0, 0⟩, ⟨.t 39, .p (.mv), [.l 7], none, 0, 0⟩, ⟨.t 40, .p (.bin .sub), [.t 39, .c (.int .i64 1)], none, 0, 0⟩, ⟨.t 41, .p (.ixsl 1), [.t 38, .t 40], none, 0, 0⟩, ⟨.t 42, .r (.load false 1), [.t 41], none, 0, 0⟩, ⟨.t 43, .p (.mv), [.l 0], none, 0, 0⟩, ⟨.t 44, .p (.mv), [.l 7], none, 0, 0⟩, ⟨.t 45, .p (.ixsl 1), [.t 43, .t 44], none, 0, 0⟩, ⟨.t 46, .r (.load false 1), [.t 45], none, 0, 0⟩, ⟨.t 47, .p (.ixsl 1), [.t 33, .t 34], none, 0, 0⟩, ⟨.no, .e (.store 1), [.t 47, .t 42], none, 0, 1⟩, ⟨.t 48, .p (.ixsl 1), [.t 35, .t 37], none, 1, 1⟩, ⟨.no, .e (.store 1), [.t 48, .t 46], none, 1, 2⟩]))
 (.reg [⟨.t 31, .p (.mv), [.l 7], none, 0, 0⟩, ⟨.t 32, .p (.bin .sub), [.t 31, .c (.int .i64 1)], none, 0, 0⟩, ⟨.l 7, .p (.mv), [.t 32], none, 0, 0⟩])))))))
 (.reg [⟨.t 13, .p (.mv), [.l 6], none, 0, 0⟩, ⟨.t 14, .p (.bin .add), [.t 13, .c (.int .i64 1)], none, 0, 0⟩, ⟨.l 6, .p (.mv), [.t 14], none, 0, 0⟩])))))),
 []⟩
theorem cf448_ok : compF TP Tryz.f448 = some cf448 := by kernel_rfl
def cf454 : CF := ⟨2, (.seq (.reg [⟨.l 4, .p (.mv), [.c (.bool false)], none, 0, 0⟩])
 (.seq (.reg [⟨.t 5, .p (.mv), [.l 0], none, 0, 0⟩, ⟨.t 6, .call 341, [.t 5], none, 0, 0⟩, ⟨.t 7, .p (.mv), [.t 6], none, 0, 0⟩, ⟨.t 8, .p (.mv), [.l 1], (some (.t 7, true)), 0, 0⟩, ⟨.t 9, .call 341, [.t 8], (some (.t 7, true)), 0, 0⟩, ⟨.t 10, .p (.un .not), [.t 9], (some (.t 7, true)), 0, 0⟩, ⟨.t 11, .p (.pick), [.t 7, .t 10, .c (.bool false)], none, 0, 0⟩, ⟨.t 12, .p (.mv), [.t 11], none, 0, 0⟩, ⟨.t 13, .p (.mv), [.l 0], (some (.t 12, false)), 0, 0⟩, ⟨.t 14, .p (.mv), [.l 1], (some (.t 12, false)), 0, 0⟩, ⟨.t 15, .p (.bin .lss), [.t 13, .t 14], (some (.t 12, false)), 0, 0⟩, ⟨.t 16, .p (.pick), [.t 12, .c (.bool true), .t 15], none, 0, 0⟩, ⟨.l 4, .p (.mv), [.t 16], none, 0, 0⟩])
 .ret)),
 [.tmp (.l 4)]⟩
theorem cf454_ok : compF TP Tryz.f454 = some cf454 := by kernel_rfl
def cf458 : CF := ⟨1, (.seq (.reg [⟨.l 2, .p (.mv), [.c (.int .i64 0)], none, 0, 0⟩])
 (.seq (.seq (.reg [⟨.t 3, .p (.mv), [.l 0], none, 0, 0⟩, ⟨.l 4, .p (.bin .geq), [.t 3, .c (.int .u64 4294967296)], none, 0, 0⟩])
 (.cond (.l 4) (.seq (.reg [⟨.t 5, .p (.mv), [.l 0], none, 0, 0⟩, ⟨.t 6, .p (.bin .shr), [.t 5, .c (.int .u64 32)], none, 0, 0⟩, ⟨.l 0, .p (.mv), [.t 6], none, 0, 0⟩])
 (.reg [⟨.l 2, .p (.mv), [.c (.int .i64 32)], none, 0, 0⟩]))
 .skip))
 (.seq (.seq (.reg [⟨.t 7, .p (.mv), [.l 0], none, 0, 0⟩, ⟨.l 8, .p (.bin .geq), [.t 7, .c (.int .u64 65536)], none, 0, 0⟩])
 (.cond (.l 8) (.seq (.reg [⟨.t 9, .p (.mv), [.l 0], none, 0, 0⟩, ⟨.t 10, .p (.bin .shr), [.t 9, .c (.int .u64 16)], none, 0, 0⟩, ⟨.l 0, .p (.mv), [.t 10], none, 0, 0⟩])
 (.reg [⟨.t 11, .p (.mv), [.l 2], none, 0, 0⟩, ⟨.t 12, .p (.bin .add), [.t 11, .c (.int .i64 16)], none, 0, 0⟩, ⟨.l 2, .p (.mv), [.t 12], none, 0, 0⟩]))
 .skip))
 (.seq (.seq (.reg [⟨.t 13, .p (.mv), [.l 0], none, 0, 0⟩, ⟨.l 14, .p (.bin .geq), [.t 13, .c (.int .u64 256)], none, 0, 0⟩])
 (.cond (.l 14) (.seq (.reg [⟨.t 15, .p (.mv), [.l 0], none, 0, 0⟩, ⟨.t 16, .p (.bin .shr), [.t 15, .c (.int .u64 8)], none, 0, 0⟩, ⟨.l 0, .p (.mv), [.t 16], none, 0, 0⟩])
 (.reg [⟨.t 17, .p (.mv), [.l 2], none, 0, 0⟩, ⟨.t 18, .p (.bin .add), [.t 17, .c (.int .i64 8)], none, 0, 0⟩, ⟨.l 2, .p (.mv), [.t 18], none, 0, 0⟩]))
 .skip))
 (.seq (.reg [⟨.t 19, .p (.mv), [.l 2], none, 0, 0⟩, ⟨.t 20, .p (.mv), [.l 0], none, 0, 0⟩, ⟨.t 21, .p (.toInt .u8), [.t 20], none, 0, 0⟩, ⟨.t 22, .p (.ixstr), [.c (.str 256 1013866857139168856493015739252390649739422828853819106890363778118420553376247557433637691341895324351018602695588957474325319502760499485336098898398377509666851054660423406800006203933793007272033180812049178612605246075062580585469430410618860250057463399279570354286669047577758927328864388992123306212451509403152394148136105363817402562688186708175358218852349079190158732807302672745370040257219644697201681238697346923541678507645485296520536209706771857694240900605172937619415410180424934769249448772944216470541052485265558808433676546390051204254346932932316488017972311616136051587427851453983453479168), .t 21], none, 0, 0⟩, ⟨.t 23, .p (.toInt .i64), [.t 22], none, 0, 0⟩, ⟨.t 24, .p (.bin .add), [.t 19, .t 23], none, 0, 0⟩, ⟨.l 2, .p (.mv), [.t 24], none, 0, 0⟩])
 .ret))))),
 [.tmp (.l 2)]⟩
theorem cf458_ok : compF TP Tryz.f458 = some cf458 := by kernel_rfl
end
end Ev
end Go.Proofs.YtbfkbabolhhbaaaGreatDoor
