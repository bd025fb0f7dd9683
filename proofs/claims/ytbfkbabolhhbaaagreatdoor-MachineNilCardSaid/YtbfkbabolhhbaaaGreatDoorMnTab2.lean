/-
  The functions of the program, compiled (printed by a program of ours; each is held against the program's own text below).
-/
import Derived.Test.YtbfkbabolhhbaaaGreatDoorMnTab1
namespace Go.Proofs.YtbfkbabolhhbaaaGreatDoor
namespace Ev
noncomputable section
def cf86 : CF := ⟨2, (.seq (.reg [⟨.t 5, .p (.mv), [.l 0], none, 0, 0⟩, ⟨.t 6, .p (.mv), [.l 1], none, 0, 0⟩, ⟨.t 7, .p (.nilc), [.t 6], none, 0, 0⟩, ⟨.t 8, .p (.fa 3), [.t 7], none, 0, 0⟩, ⟨.t 9, .r (.load false 1), [.t 8], none, 0, 0⟩, ⟨.t 10, .call 151, [.t 5, .t 9], none, 0, 0⟩, ⟨.l 4, .p (.mv), [.t 10], none, 0, 0⟩])
 (.seq (.reg [⟨.t 11, .p (.mv), [.l 0], none, 0, 0⟩, ⟨.t 12, .p (.mv), [.l 1], none, 0, 0⟩, ⟨.t 13, .p (.nilc), [.t 12], none, 0, 0⟩, ⟨.t 14, .p (.fa 5), [.t 13], none, 0, 0⟩, ⟨.t 15, .r (.load false 1), [.t 14], none, 0, 0⟩, ⟨.t 16, .call 152, [.t 11, .t 15], none, 0, 0⟩])
 (.regD [⟨.t 17, .p (.mv), [.l 0], none, 0, 0⟩, ⟨.t 18, .p (.mv), [.l 4], none, 0, 0⟩, ⟨.t 19, .p (.ixsl 9), [.t 18, .c (.int .i64 0)], none, 0, 0⟩, ⟨.t 20, .r (.load true 9), [.t 19], none, 0, 0⟩, ⟨.t 21, .p (.mv), [.l 4], none, 0, 0⟩, ⟨.t 22, .p (.ixsl 9), [.t 21, .c (.int .i64 1)], none, 0, 0⟩, ⟨.t 23, .r (.load true 9), [.t 22], none, 0, 0⟩, ⟨.t 24, .p (.mv), [.l 1], none, 0, 0⟩, ⟨.t 25, .p (.nilc), [.t 24], none, 0, 0⟩, ⟨.t 26, .p (.fa 0), [.t 25], none, 0, 0⟩, ⟨.t 27, .r (.load false 1), [.t 26], none, 0, 0⟩, ⟨.t 28, .p (.bin .eql), [.t 27, .c (.int .i64 19)], none, 0, 0⟩, ⟨.t 29, .call 153, [.t 17, .t 20, .t 23, .t 28], none, 0, 1⟩]))),
 []⟩
theorem cf86_ok : compF TP Tryz.f86 = some cf86 := by kernel_rfl
def cf91 : CF := ⟨2, (.seq (.reg [⟨.t 6, .p (.mv), [.l 0], none, 0, 0⟩, ⟨.t 7, .p (.nilc), [.t 6], none, 0, 0⟩, ⟨.t 8, .p (.fa 54), [.t 7], none, 0, 0⟩, ⟨.t 9, .p (.ixarrp 256 1), [.t 8, .c (.int .i64 0)], none, 0, 0⟩, ⟨.t 10, .r (.load false 1), [.t 9], none, 0, 0⟩, ⟨.l 4, .p (.mv), [.t 10], none, 0, 0⟩])
 (.seq (.reg [⟨.t 11, .p (.mv), [.l 0], none, 0, 0⟩, ⟨.t 12, .p (.nilc), [.t 11], none, 0, 0⟩, ⟨.t 13, .p (.fa 317), [.t 12], none, 0, 0⟩, ⟨.t 14, .r (.load false 1), [.t 13], none, 0, 0⟩, ⟨.t 15, .p (.leng .sl), [.t 14], none, 0, 0⟩, ⟨.l 5, .p (.mv), [.t 15], none, 0, 0⟩])
 (.seq (.seq (.reg [⟨.t 16, .p (.mv), [.l 5], none, 0, 0⟩, ⟨.l 17, .p (.bin .eql), [.t 16, .c (.int .i64 0)], none, 0, 0⟩])
 (.cond (.l 17) (.seq (.reg [⟨.t 18, .p (.mv), [.l 0], none, 0, 0⟩, ⟨.t 19, .p (.mv), [.l 0], none, 0, 0⟩, ⟨.t 20, .p (.mv), [.l 4], none, 0, 0⟩, ⟨.t 21, .call 120, [.t 19, .t 20], none, 0, 0⟩, ⟨.t 22, .p (.build [(.int .i64 0), (.str 0 0), (.int .i64 0), (.int .i64 0), (.int .i64 0), (.str 0 0), (.str 0 0), (.int .i64 0), .nils, (.str 0 0), (.int .i64 0), (.str 0 0), (.str 0 0), (.str 0 0), .nils, (.int .i64 0)] [(0, 1), (2, 9)]), [.c (.int .i64 1), .t 21], none, 0, 0⟩, ⟨.t 23, .call 43, [.t 18, .t 22], none, 0, 0⟩])
 .ret)
 .skip))
 (.seq (.reg [⟨.t 24, .p (.mv), [.l 0], none, 0, 0⟩, ⟨.t 25, .p (.mv), [.l 0], none, 0, 0⟩, ⟨.t 26, .p (.nilc), [.t 25], none, 0, 0⟩, ⟨.t 27, .p (.fa 317), [.t 26], none, 0, 0⟩, ⟨.t 28, .r (.load false 1), [.t 27], none, 0, 0⟩, ⟨.t 29, .p (.mv), [.l 5], none, 0, 0⟩, ⟨.t 30, .p (.bin .sub), [.t 29, .c (.int .i64 1)], none, 0, 0⟩, ⟨.t 31, .p (.ixsl 5), [.t 28, .t 30], none, 0, 0⟩, ⟨.t 32, .r (.load true 5), [.t 31], none, 0, 0⟩, ⟨.t 33, .p (.nilc), [.t 24], none, 0, 0⟩, ⟨.t 34, .p (.fa 311), [.t 33], none, 0, 0⟩, ⟨.no, .e (.store 5), [.t 34, .t 32], none, 0, 0⟩])
 (.seq (.reg [⟨.t 35, .p (.mv), [.l 0], none, 0, 0⟩, ⟨.t 36, .p (.mv), [.l 0], none, 0, 0⟩, ⟨.t 37, .p (.nilc), [.t 36], none, 0, 0⟩, ⟨.t 38, .p (.fa 317), [.t 37], none, 0, 0⟩, ⟨.t 39, .r (.load false 1), [.t 38], none, 0, 0⟩, ⟨.t 40, .p (.mv), [.l 5], none, 0, 0⟩, ⟨.t 41, .p (.bin .sub), [.t 40, .c (.int .i64 1)], none, 0, 0⟩, ⟨.t 42, .p (.slc (.sl 5) false true false), [.t 39, .t 41], none, 0, 0⟩, ⟨.t 43, .p (.nilc), [.t 35], none, 0, 0⟩, ⟨.t 44, .p (.fa 317), [.t 43], none, 0, 0⟩, ⟨.no, .e (.store 1), [.t 44, .t 42], none, 0, 0⟩])
 (.seq (.reg [⟨.t 45, .p (.mv), [.l 0], none, 0, 0⟩, ⟨.t 46, .call 38, [.t 45], none, 0, 0⟩])
 (.regD [⟨.t 47, .p (.mv), [.l 0], none, 0, 1⟩, ⟨.t 48, .p (.mv), [.l 0], none, 0, 2⟩, ⟨.t 49, .p (.mv), [.l 4], none, 0, 1⟩, ⟨.t 51, .p (.nilc), [.t 47], none, 0, 1⟩, ⟨.t 52, .p (.fa 54), [.t 51], none, 0, 1⟩, ⟨.t 50, .call 37, [], none, 0, 1⟩, ⟨.t 53, .p (.ixarrp 256 1), [.t 52, .c (.int .i64 0)], none, 1, 1⟩, ⟨.no, .e (.store 1), [.t 53, .t 49], none, 1, 2⟩, ⟨.t 54, .p (.nilc), [.t 48], none, 2, 2⟩, ⟨.t 55, .p (.fa 321), [.t 54], none, 2, 2⟩, ⟨.no, .e (.store 1), [.t 55, .t 50], none, 2, 3⟩]))))))),
 []⟩
theorem cf91_ok : compF TP Tryz.f91 = some cf91 := by kernel_rfl
def cf104 : CF := ⟨1, (.seq (.reg [⟨.l 2, .p (.mv), [.c (.bool false)], none, 0, 0⟩])
 (.seq (.reg [⟨.t 3, .p (.mv), [.l 0], none, 0, 0⟩, ⟨.t 4, .r (.eq (.one .p) true), [.t 3, .c .nilp], none, 0, 0⟩, ⟨.t 5, .p (.mv), [.t 4], none, 0, 0⟩, ⟨.t 6, .p (.mv), [.l 0], (some (.t 5, true)), 0, 0⟩, ⟨.t 7, .p (.nilc), [.t 6], (some (.t 5, true)), 0, 0⟩, ⟨.t 8, .p (.fa 6), [.t 7], (some (.t 5, true)), 0, 0⟩, ⟨.t 9, .r (.load false 1), [.t 8], (some (.t 5, true)), 0, 0⟩, ⟨.t 10, .r (.eq (.one .p) true), [.t 9, .c .nilp], (some (.t 5, true)), 0, 0⟩, ⟨.t 11, .p (.pick), [.t 5, .t 10, .c (.bool false)], none, 0, 0⟩, ⟨.l 2, .p (.mv), [.t 11], none, 0, 0⟩])
 .ret)),
 [.tmp (.l 2)]⟩
theorem cf104_ok : compF TP Tryz.f104 = some cf104 := by kernel_rfl
def cf105 : CF := ⟨1, (.seq (.reg [⟨.t 4, .p (.mv), [.l 0], none, 0, 0⟩, ⟨.t 5, .p (.nilc), [.t 4], none, 0, 0⟩, ⟨.t 6, .p (.fa 0), [.t 5], none, 0, 0⟩, ⟨.l 7, .call 166, [.t 6], none, 0, 0⟩, ⟨.l 8, .p (.leng .sl), [.l 7], none, 0, 0⟩, ⟨.l 9, .p (.mv), [.c (.int .i64 0)], none, 0, 0⟩])
 (.block 0 (.loop (.seq (.reg [⟨.l 10, .p (.bin .lss), [.l 9, .l 8], none, 0, 0⟩])
 (.seq (.cond (.l 10) .skip
 (.exit 0))
 (.seq (.block 1 (.seq (.reg [⟨.t 11, .p (.ixsl 1), [.l 7, .l 9], none, 0, 0⟩, ⟨.t 12, .r (.load false 1), [.t 11], none, 0, 0⟩, ⟨.l 3, .p (.mv), [.t 12], none, 0, 0⟩])
 (.reg [⟨.t 13, .p (.mv), [.l 0], none, 0, 0⟩, ⟨.t 14, .p (.nilc), [.t 13], none, 0, 0⟩, ⟨.t 15, .p (.fa 7), [.t 14], none, 0, 0⟩, ⟨.t 16, .r (.load false 1), [.t 15], none, 0, 0⟩, ⟨.t 17, .p (.mv), [.l 3], none, 0, 0⟩, ⟨.t 18, .call 167, [.t 16, .t 17], none, 0, 0⟩])))
 (.reg [⟨.t 19, .p (.bin .add), [.l 9, .c (.int .i64 1)], none, 0, 0⟩, ⟨.l 9, .p (.mv), [.t 19], none, 0, 0⟩]))))))),
 []⟩
theorem cf105_ok : compF TP Tryz.f105 = some cf105 := by kernel_rfl
def cf106 : CF := ⟨1, (.seq (.reg [⟨.l 1, .a (.box), [.l 0], none, 0, 0⟩, ⟨.l 2, .p (.mv), [.c (.int .i64 0)], none, 0, 0⟩, ⟨.l 3, .p (.mv), [.c (.int .i64 0)], none, 0, 0⟩])
 (.seq (.seq (.reg [⟨.t 8, .call 168, [.l 1], none, 0, 0⟩, ⟨.l 9, .p (.un .not), [.t 8], none, 0, 0⟩])
 (.cond (.l 9) (.seq (.reg [⟨.l 2, .p (.mv), [.c (.int .i64 (-1))], none, 0, 0⟩, ⟨.l 3, .p (.mv), [.c (.int .i64 6)], none, 0, 0⟩])
 .ret)
 .skip))
 (.seq (.seq (.reg [⟨.t 10, .p (.fa 5), [.l 1], none, 0, 0⟩, ⟨.t 11, .r (.load false 1), [.t 10], none, 0, 0⟩, ⟨.l 12, .p (.leng .sl), [.t 11], none, 0, 0⟩, ⟨.l 13, .p (.mv), [.c (.int .i64 0)], none, 0, 0⟩])
 (.block 0 (.loop (.seq (.reg [⟨.l 14, .p (.bin .lss), [.l 13, .l 12], none, 0, 0⟩])
 (.seq (.cond (.l 14) .skip
 (.exit 0))
 (.seq (.block 1 (.seq (.reg [⟨.t 15, .p (.mv), [.l 13], none, 0, 0⟩, ⟨.l 4, .p (.mv), [.t 15], none, 0, 0⟩])
 (.seq (.reg [⟨.t 16, .p (.fa 5), [.l 1], none, 0, 0⟩, ⟨.t 17, .r (.load false 1), [.t 16], none, 0, 0⟩, ⟨.t 18, .p (.mv), [.l 4], none, 0, 0⟩, ⟨.t 19, .p (.ixsl 10), [.t 17, .t 18], none, 0, 0⟩, ⟨.l 5, .p (.mv), [.t 19], none, 0, 0⟩])
 (.seq (.reg [⟨.t 21, .p (.mv), [.l 5], none, 0, 0⟩, ⟨.t 22, .p (.nilc), [.t 21], none, 0, 0⟩, ⟨.t 23, .p (.fa 0), [.t 22], none, 0, 0⟩, ⟨.t 24, .r (.load false 1), [.t 23], none, 0, 0⟩, ⟨.t 25, .call 169, [.t 24], none, 0, 0⟩, ⟨.t 20, .p (.mv), [.t 25], none, 0, 0⟩, ⟨.t 26, .p (.ext 0), [.t 20], none, 0, 0⟩, ⟨.t 27, .p (.ext 1), [.t 20], none, 0, 0⟩, ⟨.l 6, .a (.alloc [(.int .i64 0), (.int .i64 0), (.int .i64 0)]), [], none, 0, 0⟩, ⟨.no, .e (.store 3), [.l 6, .t 26], none, 0, 0⟩, ⟨.l 7, .p (.mv), [.t 27], none, 0, 0⟩])
 (.seq (.reg [⟨.t 28, .p (.mv), [.l 7], none, 0, 0⟩, ⟨.t 29, .p (.un .not), [.t 28], none, 0, 0⟩, ⟨.t 30, .p (.mv), [.t 29], none, 0, 0⟩, ⟨.t 31, .p (.mv), [.l 5], (some (.t 30, false)), 0, 0⟩, ⟨.t 32, .r (.load true 3), [.l 6], (some (.t 30, false)), 0, 0⟩, ⟨.t 33, .call 170, [.l 1, .t 31, .t 32], (some (.t 30, false)), 0, 0⟩, ⟨.t 34, .p (.un .not), [.t 33], (some (.t 30, false)), 0, 0⟩, ⟨.t 35, .p (.pick), [.t 30, .c (.bool true), .t 34], none, 0, 0⟩, ⟨.t 36, .p (.mv), [.t 35], none, 0, 0⟩, ⟨.t 37, .p (.mv), [.l 5], (some (.t 36, false)), 0, 0⟩, ⟨.t 38, .call 171, [.l 1, .t 37], (some (.t 36, false)), 0, 0⟩, ⟨.t 39, .p (.un .not), [.t 38], (some (.t 36, false)), 0, 0⟩, ⟨.t 40, .p (.pick), [.t 36, .c (.bool true), .t 39], none, 0, 0⟩, ⟨.t 41, .p (.mv), [.t 40], none, 0, 0⟩, ⟨.t 42, .p (.mv), [.l 5], (some (.t 41, false)), 0, 0⟩, ⟨.t 43, .call 172, [.t 42], (some (.t 41, false)), 0, 0⟩, ⟨.t 44, .p (.un .not), [.t 43], (some (.t 41, false)), 0, 0⟩, ⟨.t 45, .p (.pick), [.t 41, .c (.bool true), .t 44], none, 0, 0⟩, ⟨.t 46, .p (.mv), [.t 45], none, 0, 0⟩, ⟨.t 47, .p (.mv), [.l 5], (some (.t 46, false)), 0, 0⟩, ⟨.t 48, .call 173, [.l 1, .t 47], (some (.t 46, false)), 0, 0⟩, ⟨.t 49, .p (.un .not), [.t 48], (some (.t 46, false)), 0, 0⟩, ⟨.t 50, .p (.pick), [.t 46, .c (.bool true), .t 49], none, 0, 0⟩, ⟨.t 51, .p (.mv), [.t 50], none, 0, 0⟩, ⟨.t 52, .p (.mv), [.l 4], (some (.t 51, false)), 0, 0⟩, ⟨.t 53, .r (.load true 3), [.l 6], (some (.t 51, false)), 0, 0⟩, ⟨.t 54, .call 174, [.l 1, .t 52, .t 53], (some (.t 51, false)), 0, 0⟩, ⟨.t 55, .p (.un .not), [.t 54], (some (.t 51, false)), 0, 0⟩, ⟨.l 56, .p (.pick), [.t 51, .c (.bool true), .t 55], none, 0, 0⟩])
 (.cond (.l 56) (.seq (.reg [⟨.t 57, .p (.mv), [.l 4], none, 0, 0⟩, ⟨.l 2, .p (.mv), [.t 57], none, 0, 0⟩, ⟨.l 3, .p (.mv), [.c (.int .i64 6)], none, 0, 0⟩])
 .ret)
 .skip))))))
 (.reg [⟨.t 58, .p (.bin .add), [.l 13, .c (.int .i64 1)], none, 0, 0⟩, ⟨.l 13, .p (.mv), [.t 58], none, 0, 0⟩])))))))
 (.seq (.reg [⟨.l 2, .p (.mv), [.c (.int .i64 0)], none, 0, 0⟩, ⟨.l 3, .p (.mv), [.c (.int .i64 0)], none, 0, 0⟩])
 .ret)))),
 [.tmp (.l 2), .tmp (.l 3)]⟩
theorem cf106_ok : compF TP Tryz.f106 = some cf106 := by kernel_rfl
def cf107 : CF := ⟨1, (.seq (.reg [⟨.l 2, .p (.mv), [.c .nilp], none, 0, 0⟩, ⟨.l 3, .p (.mv), [.c (.int .i64 0)], none, 0, 0⟩, ⟨.l 4, .p (.mv), [.c (.int .i64 0)], none, 0, 0⟩])
 (.seq (.reg [⟨.t 17, .p (.mv), [.l 0], none, 0, 0⟩, ⟨.t 18, .p (.mv), [.l 0], none, 0, 0⟩, ⟨.t 19, .p (.nilc), [.t 18], none, 0, 0⟩, ⟨.t 20, .p (.fa 5), [.t 19], none, 0, 0⟩, ⟨.t 21, .r (.load false 1), [.t 20], none, 0, 0⟩, ⟨.t 22, .p (.leng .sl), [.t 21], none, 0, 0⟩, ⟨.t 23, .a (.mks [.nilp, .nils, (.int .i64 0)] 40), [.t 22, .t 22], none, 0, 0⟩, ⟨.t 24, .p (.build [.nilp, .nils, (.int .i64 0)] [(0, 1), (1, 1)]), [.t 17, .t 23], none, 0, 0⟩, ⟨.t 25, .a (.box), [.t 24], none, 0, 0⟩, ⟨.l 5, .p (.mv), [.t 25], none, 0, 0⟩])
 (.seq (.seq (.reg [⟨.t 26, .p (.mv), [.l 0], none, 0, 0⟩, ⟨.t 27, .p (.nilc), [.t 26], none, 0, 0⟩, ⟨.t 28, .p (.fa 3), [.t 27], none, 0, 0⟩, ⟨.l 29, .r (.load false 1), [.t 28], none, 0, 0⟩, ⟨.l 30, .p (.leng .sl), [.l 29], none, 0, 0⟩, ⟨.l 31, .p (.mv), [.c (.int .i64 0)], none, 0, 0⟩])
 (.block 0 (.loop (.seq (.reg [⟨.l 32, .p (.bin .lss), [.l 31, .l 30], none, 0, 0⟩])
 (.seq (.cond (.l 32) .skip
 (.exit 0))
 (.seq (.block 1 (.seq (.reg [⟨.t 33, .p (.ixsl 4), [.l 29, .l 31], none, 0, 0⟩, ⟨.t 34, .r (.load true 4), [.t 33], none, 0, 0⟩, ⟨.l 7, .a (.alloc [(.str 0 0), (.int .i64 0), (.bool false), (.int .i64 0)]), [], none, 0, 0⟩, ⟨.no, .e (.store 4), [.l 7, .t 34], none, 0, 0⟩])
 (.regD [⟨.t 35, .p (.mv), [.l 5], none, 0, 1⟩, ⟨.t 36, .p (.nilc), [.t 35], none, 0, 1⟩, ⟨.t 37, .p (.fa 1), [.t 36], none, 0, 1⟩, ⟨.t 38, .r (.load false 1), [.t 37], none, 0, 1⟩, ⟨.t 39, .p (.fa 3), [.l 7], none, 0, 1⟩, ⟨.t 40, .r (.load false 1), [.t 39], none, 0, 1⟩, ⟨.t 41, .p (.ixsl 3), [.t 38, .t 40], none, 0, 1⟩, ⟨.t 42, .p (.fa 1), [.l 7], none, 0, 0⟩, ⟨.t 43, .r (.load false 1), [.t 42], none, 0, 0⟩, ⟨.t 44, .call 176, [.t 43], none, 0, 1⟩, ⟨.t 45, .call 175, [.t 41, .t 44], none, 1, 2⟩])))
 (.reg [⟨.t 46, .p (.bin .add), [.l 31, .c (.int .i64 1)], none, 0, 0⟩, ⟨.l 31, .p (.mv), [.t 46], none, 0, 0⟩])))))))
 (.seq (.seq (.reg [⟨.t 47, .p (.mv), [.l 0], none, 0, 0⟩, ⟨.t 48, .p (.nilc), [.t 47], none, 0, 0⟩, ⟨.t 49, .p (.fa 4), [.t 48], none, 0, 0⟩, ⟨.l 50, .r (.load false 1), [.t 49], none, 0, 0⟩, ⟨.l 51, .p (.leng .sl), [.l 50], none, 0, 0⟩, ⟨.l 52, .p (.mv), [.c (.int .i64 0)], none, 0, 0⟩])
 (.block 2 (.loop (.seq (.reg [⟨.l 53, .p (.bin .lss), [.l 52, .l 51], none, 0, 0⟩])
 (.seq (.cond (.l 53) .skip
 (.exit 2))
 (.seq (.block 3 (.seq (.reg [⟨.t 54, .p (.ixsl 3), [.l 50, .l 52], none, 0, 0⟩, ⟨.t 55, .r (.load true 3), [.t 54], none, 0, 0⟩, ⟨.l 9, .a (.alloc [(.int .i64 0), (.int .i64 0), (.int .i64 0)]), [], none, 0, 0⟩, ⟨.no, .e (.store 3), [.l 9, .t 55], none, 0, 0⟩])
 (.regD [⟨.t 56, .p (.mv), [.l 5], none, 0, 1⟩, ⟨.t 57, .p (.nilc), [.t 56], none, 0, 1⟩, ⟨.t 58, .p (.fa 1), [.t 57], none, 0, 1⟩, ⟨.t 59, .r (.load false 1), [.t 58], none, 0, 1⟩, ⟨.t 60, .p (.fa 2), [.l 9], none, 0, 1⟩, ⟨.t 61, .r (.load false 1), [.t 60], none, 0, 1⟩, ⟨.t 62, .p (.ixsl 3), [.t 59, .t 61], none, 0, 1⟩, ⟨.t 63, .p (.fa 0), [.l 9], none, 0, 0⟩, ⟨.t 64, .r (.load false 1), [.t 63], none, 0, 0⟩, ⟨.t 65, .p (.fa 1), [.l 9], none, 0, 0⟩, ⟨.t 66, .r (.load false 1), [.t 65], none, 0, 0⟩, ⟨.t 67, .p (.bin .add), [.t 64, .t 66], none, 0, 0⟩, ⟨.t 68, .call 176, [.t 67], none, 0, 1⟩, ⟨.t 69, .call 175, [.t 62, .t 68], none, 1, 2⟩])))
 (.reg [⟨.t 70, .p (.bin .add), [.l 52, .c (.int .i64 1)], none, 0, 0⟩, ⟨.l 52, .p (.mv), [.t 70], none, 0, 0⟩])))))))
 (.seq (.reg [⟨.t 71, .call 177, [], none, 0, 0⟩, ⟨.l 10, .p (.mv), [.t 71], none, 0, 0⟩])
 (.seq (.seq (.reg [⟨.t 72, .p (.mv), [.l 0], none, 0, 0⟩, ⟨.t 73, .p (.nilc), [.t 72], none, 0, 0⟩, ⟨.t 74, .p (.fa 5), [.t 73], none, 0, 0⟩, ⟨.t 75, .r (.load false 1), [.t 74], none, 0, 0⟩, ⟨.l 76, .p (.leng .sl), [.t 75], none, 0, 0⟩, ⟨.l 77, .p (.mv), [.c (.int .i64 0)], none, 0, 0⟩])
 (.block 4 (.loop (.seq (.reg [⟨.l 78, .p (.bin .lss), [.l 77, .l 76], none, 0, 0⟩])
 (.seq (.cond (.l 78) .skip
 (.exit 4))
 (.seq (.block 5 (.seq (.reg [⟨.t 79, .p (.mv), [.l 77], none, 0, 0⟩, ⟨.l 11, .p (.mv), [.t 79], none, 0, 0⟩])
 (.seq (.reg [⟨.t 80, .p (.mv), [.l 5], none, 0, 0⟩, ⟨.t 81, .p (.mv), [.l 11], none, 0, 0⟩, ⟨.t 82, .p (.nilc), [.t 80], none, 0, 0⟩, ⟨.t 83, .p (.fa 2), [.t 82], none, 0, 0⟩, ⟨.no, .e (.store 1), [.t 83, .t 81], none, 0, 0⟩])
 (.seq (.reg [⟨.t 84, .p (.mv), [.l 5], none, 0, 0⟩, ⟨.t 85, .p (.nilc), [.t 84], none, 0, 0⟩, ⟨.t 86, .p (.fa 1), [.t 85], none, 0, 0⟩, ⟨.t 87, .r (.load false 1), [.t 86], none, 0, 0⟩, ⟨.t 88, .p (.mv), [.l 11], none, 0, 0⟩, ⟨.t 89, .p (.ixsl 3), [.t 87, .t 88], none, 0, 0⟩, ⟨.l 12, .p (.mv), [.t 89], none, 0, 0⟩])
 (.seq (.seq (.reg [⟨.t 90, .p (.mv), [.l 12], none, 0, 0⟩, ⟨.t 91, .p (.nilc), [.t 90], none, 0, 0⟩, ⟨.t 92, .p (.fa 2), [.t 91], none, 0, 0⟩, ⟨.t 93, .r (.load false 1), [.t 92], none, 0, 0⟩, ⟨.l 94, .p (.bin .neq), [.t 93, .c (.int .i64 0)], none, 0, 0⟩])
 (.cond (.l 94) (.seq (.regD [⟨.t 95, .p (.mv), [.l 11], none, 0, 0⟩, ⟨.t 96, .p (.mv), [.l 12], none, 0, 0⟩, ⟨.t 97, .p (.nilc), [.t 96], none, 0, 0⟩, ⟨.t 98, .p (.fa 2), [.t 97], none, 0, 0⟩, ⟨.t 99, .r (.load false 1), [.t 98], none, 0, 0⟩, ⟨.l 2, .p (.mv), [.c .nilp], none, 0, 0⟩, ⟨.l 3, .p (.mv), [.t 95], none, 0, 0⟩, ⟨.l 4, .p (.mv), [.t 99], none, 0, 0⟩])
 .ret)
 .skip))
 (.seq (.seq (.reg [⟨.t 100, .p (.mv), [.l 12], none, 0, 0⟩, ⟨.t 101, .p (.nilc), [.t 100], none, 0, 0⟩, ⟨.t 102, .p (.fa 0), [.t 101], none, 0, 0⟩, ⟨.t 103, .r (.load false 1), [.t 102], none, 0, 0⟩, ⟨.l 104, .r (.eq (.one .p) false), [.t 103, .c .nilp], none, 0, 0⟩])
 (.cond (.l 104) (.exit 5)
 .skip))
 (.seq (.seq (.reg [⟨.l 105, .p (.mv), [.l 10], none, 0, 0⟩, ⟨.l 106, .p (.leng .sl), [.l 105], none, 0, 0⟩, ⟨.l 107, .p (.mv), [.c (.int .i64 0)], none, 0, 0⟩])
 (.block 6 (.loop (.seq (.reg [⟨.l 108, .p (.bin .lss), [.l 107, .l 106], none, 0, 0⟩])
 (.seq (.cond (.l 108) .skip
 (.exit 6))
 (.seq (.block 7 (.seq (.reg [⟨.t 109, .p (.ixsl 1), [.l 105, .l 107], none, 0, 0⟩, ⟨.t 110, .r (.load true 1), [.t 109], none, 0, 0⟩, ⟨.l 14, .a (.alloc [.nilf]), [], none, 0, 0⟩, ⟨.no, .e (.store 1), [.l 14, .t 110], none, 0, 0⟩])
 (.seq (.regD [⟨.t 111, .p (.fa 0), [.l 14], none, 0, 0⟩, ⟨.t 112, .r (.load false 1), [.t 111], none, 0, 0⟩, ⟨.t 113, .p (.mv), [.l 5], none, 0, 0⟩, ⟨.t 114, .p (.mv), [.l 12], none, 0, 0⟩, ⟨.t 115, .p (.nilc), [.t 114], none, 0, 0⟩, ⟨.t 116, .p (.fa 0), [.t 115], none, 0, 0⟩, ⟨.t 117, .r (.load false 1), [.t 116], none, 0, 0⟩, ⟨.t 118, .p (.mv), [.l 0], none, 0, 0⟩, ⟨.t 119, .p (.nilc), [.t 118], none, 0, 0⟩, ⟨.t 120, .p (.fa 5), [.t 119], none, 0, 0⟩, ⟨.t 121, .r (.load false 1), [.t 120], none, 0, 0⟩, ⟨.t 122, .p (.mv), [.l 11], none, 0, 0⟩, ⟨.t 123, .p (.ixsl 10), [.t 121, .t 122], none, 0, 0⟩, ⟨.t 124, .callv, [.t 112, .t 113, .t 117, .t 123], none, 0, 1⟩, ⟨.l 15, .p (.mv), [.t 124], none, 1, 1⟩])
 (.seq (.reg [⟨.t 125, .p (.mv), [.l 15], none, 0, 0⟩, ⟨.l 126, .p (.bin .neq), [.t 125, .c (.int .i64 0)], none, 0, 0⟩])
 (.cond (.l 126) (.seq (.reg [⟨.t 127, .p (.mv), [.l 11], none, 0, 0⟩, ⟨.t 128, .p (.mv), [.l 15], none, 0, 0⟩, ⟨.l 2, .p (.mv), [.c .nilp], none, 0, 0⟩, ⟨.l 3, .p (.mv), [.t 127], none, 0, 0⟩, ⟨.l 4, .p (.mv), [.t 128], none, 0, 0⟩])
 .ret)
 .skip)))))
 (.reg [⟨.t 129, .p (.bin .add), [.l 107, .c (.int .i64 1)], none, 0, 0⟩, ⟨.l 107, .p (.mv), [.t 129], none, 0, 0⟩])))))))
 (.seq (.reg [⟨.t 130, .p (.mv), [.l 5], none, 0, 0⟩, ⟨.t 131, .p (.mv), [.l 11], none, 0, 0⟩, ⟨.t 132, .p (.mv), [.l 12], none, 0, 0⟩, ⟨.t 133, .p (.nilc), [.t 132], none, 0, 0⟩, ⟨.t 134, .p (.fa 0), [.t 133], none, 0, 0⟩, ⟨.t 135, .r (.load false 1), [.t 134], none, 0, 0⟩, ⟨.t 136, .call 178, [.t 130, .t 131, .t 135], none, 0, 0⟩, ⟨.l 16, .p (.mv), [.t 136], none, 0, 0⟩])
 (.seq (.reg [⟨.t 137, .p (.mv), [.l 16], none, 0, 0⟩, ⟨.l 138, .p (.bin .neq), [.t 137, .c (.int .i64 0)], none, 0, 0⟩])
 (.cond (.l 138) (.seq (.reg [⟨.t 139, .p (.mv), [.l 11], none, 0, 0⟩, ⟨.t 140, .p (.mv), [.l 16], none, 0, 0⟩, ⟨.l 2, .p (.mv), [.c .nilp], none, 0, 0⟩, ⟨.l 3, .p (.mv), [.t 139], none, 0, 0⟩, ⟨.l 4, .p (.mv), [.t 140], none, 0, 0⟩])
 .ret)
 .skip))))))))))
 (.reg [⟨.t 141, .p (.bin .add), [.l 77, .c (.int .i64 1)], none, 0, 0⟩, ⟨.l 77, .p (.mv), [.t 141], none, 0, 0⟩])))))))
 (.seq (.reg [⟨.t 142, .p (.mv), [.l 5], none, 0, 0⟩, ⟨.l 2, .p (.mv), [.t 142], none, 0, 0⟩, ⟨.l 3, .p (.mv), [.c (.int .i64 0)], none, 0, 0⟩, ⟨.l 4, .p (.mv), [.c (.int .i64 0)], none, 0, 0⟩])
 .ret))))))),
 [.tmp (.l 2), .tmp (.l 3), .tmp (.l 4)]⟩
theorem cf107_ok : compF TP Tryz.f107 = some cf107 := by kernel_rfl
def cf108 : CF := ⟨1, (.seq (.reg [⟨.l 2, .p (.mv), [.c .nils], none, 0, 0⟩])
 (.seq (.seq (.reg [⟨.t 3, .p (.mv), [.l 0], none, 0, 0⟩, ⟨.l 4, .p (.eqd .s false), [.t 3, .c .nils], none, 0, 0⟩])
 (.cond (.l 4) (.seq (.reg [⟨.l 2, .p (.mv), [.c .nils], none, 0, 0⟩])
 .ret)
 .skip))
 (.seq (.reg [⟨.t 5, .a (.bslice [(.int .i64 0), (.int .i64 0), (.int .i64 0), (.str 0 0), (.str 0 0), (.int .i64 0), .nils, (.str 0 0), (.int .i64 0)] 0 9 []), [], none, 0, 0⟩, ⟨.t 6, .p (.mv), [.l 0], none, 0, 0⟩, ⟨.t 7, .e (.append 9 112 none), [.t 5, .t 6], none, 0, 0⟩, ⟨.l 2, .p (.mv), [.t 7], none, 0, 0⟩])
 .ret))),
 [.tmp (.l 2)]⟩
theorem cf108_ok : compF TP Tryz.f108 = some cf108 := by kernel_rfl
def cf109 : CF := ⟨1, (.seq (.reg [⟨.l 2, .p (.mv), [.c .nils], none, 0, 0⟩])
 (.seq (.seq (.reg [⟨.t 3, .p (.mv), [.l 0], none, 0, 0⟩, ⟨.l 4, .p (.eqd .s false), [.t 3, .c .nils], none, 0, 0⟩])
 (.cond (.l 4) (.seq (.reg [⟨.l 2, .p (.mv), [.c .nils], none, 0, 0⟩])
 .ret)
 .skip))
 (.seq (.reg [⟨.t 5, .a (.bslice [(.str 0 0), (.int .i64 0), (.bool false), (.int .i64 0)] 0 4 []), [], none, 0, 0⟩, ⟨.t 6, .p (.mv), [.l 0], none, 0, 0⟩, ⟨.t 7, .e (.append 4 40 none), [.t 5, .t 6], none, 0, 0⟩, ⟨.l 2, .p (.mv), [.t 7], none, 0, 0⟩])
 .ret))),
 [.tmp (.l 2)]⟩
theorem cf109_ok : compF TP Tryz.f109 = some cf109 := by kernel_rfl
def cf110 : CF := ⟨1, (.seq (.reg [⟨.l 2, .p (.mv), [.c .nils], none, 0, 0⟩])
 (.seq (.seq (.reg [⟨.t 3, .p (.mv), [.l 0], none, 0, 0⟩, ⟨.l 4, .p (.eqd .s false), [.t 3, .c .nils], none, 0, 0⟩])
 (.cond (.l 4) (.seq (.reg [⟨.l 2, .p (.mv), [.c .nils], none, 0, 0⟩])
 .ret)
 .skip))
 (.seq (.reg [⟨.t 5, .a (.bslice [(.int .i64 0), (.int .i64 0), (.int .i64 0)] 0 3 []), [], none, 0, 0⟩, ⟨.t 6, .p (.mv), [.l 0], none, 0, 0⟩, ⟨.t 7, .e (.append 3 24 none), [.t 5, .t 6], none, 0, 0⟩, ⟨.l 2, .p (.mv), [.t 7], none, 0, 0⟩])
 .ret))),
 [.tmp (.l 2)]⟩
theorem cf110_ok : compF TP Tryz.f110 = some cf110 := by kernel_rfl
def cf111 : CF := ⟨1, (.seq (.reg [⟨.l 2, .p (.mv), [.c .nils], none, 0, 0⟩])
 (.seq (.seq (.reg [⟨.t 3, .p (.mv), [.l 0], none, 0, 0⟩, ⟨.l 4, .p (.eqd .s false), [.t 3, .c .nils], none, 0, 0⟩])
 (.cond (.l 4) (.seq (.reg [⟨.l 2, .p (.mv), [.c .nils], none, 0, 0⟩])
 .ret)
 .skip))
 (.seq (.reg [⟨.t 5, .a (.bslice [(.int .i64 0), (.int .i64 0), (.int .i64 0), .nils, (.int .i64 0), (.int .i64 0), (.int .i64 0), (.str 0 0), .nils, .nils] 0 10 []), [], none, 0, 0⟩, ⟨.t 6, .p (.mv), [.l 0], none, 0, 0⟩, ⟨.t 7, .e (.append 10 136 none), [.t 5, .t 6], none, 0, 0⟩, ⟨.l 2, .p (.mv), [.t 7], none, 0, 0⟩])
 .ret))),
 [.tmp (.l 2)]⟩
theorem cf111_ok : compF TP Tryz.f111 = some cf111 := by kernel_rfl
def cf112 : CF := ⟨1, (.seq (.reg [⟨.l 2, .p (.mv), [.c .nils], none, 0, 0⟩])
 (.seq (.seq (.reg [⟨.t 3, .p (.mv), [.l 0], none, 0, 0⟩, ⟨.l 4, .p (.eqd .s false), [.t 3, .c .nils], none, 0, 0⟩])
 (.cond (.l 4) (.seq (.reg [⟨.l 2, .p (.mv), [.c .nils], none, 0, 0⟩])
 .ret)
 .skip))
 (.seq (.reg [⟨.t 5, .a (.bslice [(.int .i64 0), (.int .i64 0)] 0 2 []), [], none, 0, 0⟩, ⟨.t 6, .p (.mv), [.l 0], none, 0, 0⟩, ⟨.t 7, .e (.append 2 16 none), [.t 5, .t 6], none, 0, 0⟩, ⟨.l 2, .p (.mv), [.t 7], none, 0, 0⟩])
 .ret))),
 [.tmp (.l 2)]⟩
theorem cf112_ok : compF TP Tryz.f112 = some cf112 := by kernel_rfl
def cf113 : CF := ⟨1, (.seq (.reg [⟨.l 2, .p (.mv), [.c .nils], none, 0, 0⟩])
 (.seq (.seq (.reg [⟨.t 3, .p (.mv), [.l 0], none, 0, 0⟩, ⟨.l 4, .p (.eqd .s false), [.t 3, .c .nils], none, 0, 0⟩])
 (.cond (.l 4) (.seq (.reg [⟨.l 2, .p (.mv), [.c .nils], none, 0, 0⟩])
 .ret)
 .skip))
 (.seq (.reg [⟨.t 5, .a (.bslice [(.int .i64 0), (.int .i64 0)] 0 2 []), [], none, 0, 0⟩, ⟨.t 6, .p (.mv), [.l 0], none, 0, 0⟩, ⟨.t 7, .e (.append 2 16 none), [.t 5, .t 6], none, 0, 0⟩, ⟨.l 2, .p (.mv), [.t 7], none, 0, 0⟩])
 .ret))),
 [.tmp (.l 2)]⟩
theorem cf113_ok : compF TP Tryz.f113 = some cf113 := by kernel_rfl
def cf114 : CF := ⟨1, (.seq (.reg [⟨.l 2, .p (.mv), [.c .nils], none, 0, 0⟩])
 (.seq (.seq (.reg [⟨.t 3, .p (.mv), [.l 0], none, 0, 0⟩, ⟨.l 4, .p (.eqd .s false), [.t 3, .c .nils], none, 0, 0⟩])
 (.cond (.l 4) (.seq (.reg [⟨.l 2, .p (.mv), [.c .nils], none, 0, 0⟩])
 .ret)
 .skip))
 (.seq (.reg [⟨.t 5, .a (.bslice [(.int .i64 0), (.int .i64 0), (.int .i64 0), (.int .i64 0), (.int .i64 0), (.bool false)] 0 6 []), [], none, 0, 0⟩, ⟨.t 6, .p (.mv), [.l 0], none, 0, 0⟩, ⟨.t 7, .e (.append 6 48 none), [.t 5, .t 6], none, 0, 0⟩, ⟨.l 2, .p (.mv), [.t 7], none, 0, 0⟩])
 .ret))),
 [.tmp (.l 2)]⟩
theorem cf114_ok : compF TP Tryz.f114 = some cf114 := by kernel_rfl
def cf115 : CF := ⟨3, (.seq (.reg [⟨.l 4, .a (.box), [.l 1], none, 0, 0⟩])
 (.seq (.regD [⟨.t 6, .p (.mv), [.l 0], none, 0, 0⟩, ⟨.t 7, .p (.mv), [.l 0], none, 0, 1⟩, ⟨.t 8, .p (.mv), [.l 0], none, 0, 2⟩, ⟨.t 9, .r (.load true 16), [.l 4], none, 0, 1⟩, ⟨.t 10, .p (.mv), [.l 2], none, 0, 2⟩, ⟨.t 11, .p (.nilc), [.t 6], none, 0, 0⟩, ⟨.t 12, .p (.fa 329), [.t 11], none, 0, 0⟩, ⟨.no, .e (.store 1), [.t 12, .c (.int .i64 3)], none, 0, 1⟩, ⟨.t 13, .p (.nilc), [.t 7], none, 1, 1⟩, ⟨.t 14, .p (.fa 330), [.t 13], none, 1, 1⟩, ⟨.no, .e (.store 16), [.t 14, .t 9], none, 1, 2⟩, ⟨.t 15, .p (.nilc), [.t 8], none, 2, 2⟩, ⟨.t 16, .p (.fa 346), [.t 15], none, 2, 2⟩, ⟨.no, .e (.store 1), [.t 16, .t 10], none, 2, 3⟩])
 (.seq (.reg [⟨.l 17, .p (.mv), [.l 2], none, 0, 0⟩])
 (.cond (.l 17) (.reg [⟨.t 18, .p (.mv), [.l 0], none, 0, 0⟩, ⟨.t 19, .p (.nilc), [.t 18], none, 0, 0⟩, ⟨.t 20, .p (.fa 316), [.t 19], none, 0, 0⟩, ⟨.no, .e (.store 1), [.t 20, .c (.bool false)], none, 0, 0⟩])
 .skip)))),
 []⟩
theorem cf115_ok : compF TP Tryz.f115 = some cf115 := by kernel_rfl
def cf116 : CF := ⟨2, (.seq (.reg [⟨.l 4, .p (.mv), [.c .nils], none, 0, 0⟩])
 (.seq (.reg [⟨.l 5, .p (.mv), [.c .nils], none, 0, 0⟩])
 (.seq (.seq (.reg [⟨.l 8, .p (.mv), [.l 1], none, 0, 0⟩, ⟨.l 9, .p (.leng .sl), [.l 8], none, 0, 0⟩, ⟨.l 10, .p (.mv), [.c (.int .i64 0)], none, 0, 0⟩])
 (.block 0 (.loop (.seq (.reg [⟨.l 11, .p (.bin .lss), [.l 10, .l 9], none, 0, 0⟩])
 (.seq (.cond (.l 11) .skip
 (.exit 0))
 (.seq (.block 1 (.seq (.reg [⟨.t 12, .p (.ixsl 1), [.l 8, .l 10], none, 0, 0⟩, ⟨.t 13, .r (.load false 1), [.t 12], none, 0, 0⟩, ⟨.l 7, .p (.mv), [.t 13], none, 0, 0⟩])
 (.reg [⟨.t 14, .p (.mv), [.l 5], none, 0, 0⟩, ⟨.t 15, .p (.mv), [.l 0], none, 0, 0⟩, ⟨.t 16, .p (.mv), [.l 7], none, 0, 0⟩, ⟨.t 17, .call 120, [.t 15, .t 16], none, 0, 0⟩, ⟨.t 18, .a (.bslice [(.int .i64 0), (.int .i64 0), (.int .i64 0), (.str 0 0), (.str 0 0), (.int .i64 0), .nils, (.str 0 0), (.int .i64 0)] 1 9 [(0, 9)]), [.t 17], none, 0, 0⟩, ⟨.t 19, .e (.append 9 112 none), [.t 14, .t 18], none, 0, 0⟩, ⟨.l 5, .p (.mv), [.t 19], none, 0, 0⟩])))
 (.reg [⟨.t 20, .p (.bin .add), [.l 10, .c (.int .i64 1)], none, 0, 0⟩, ⟨.l 10, .p (.mv), [.t 20], none, 0, 0⟩])))))))
 (.seq (.reg [⟨.t 21, .p (.mv), [.l 5], none, 0, 0⟩, ⟨.l 4, .p (.mv), [.t 21], none, 0, 0⟩])
 .ret)))),
 [.tmp (.l 4)]⟩
theorem cf116_ok : compF TP Tryz.f116 = some cf116 := by kernel_rfl
def cf117 : CF := ⟨2, (.seq (.reg [⟨.l 2, .a (.box), [.l 0], none, 0, 0⟩, ⟨.l 3, .a (.box), [.l 1], none, 0, 0⟩])
 (.reg [⟨.t 4, .r (.load false 1), [.l 2], none, 0, 0⟩, ⟨.t 5, .p (.mkf (.func 179) 0), [.l 2, .l 3], none, 0, 0⟩, ⟨.t 6, .call 63, [.t 4, .t 5], none, 0, 0⟩])),
 []⟩
theorem cf117_ok : compF TP Tryz.f117 = some cf117 := by kernel_rfl
def cf118 : CF := ⟨2, (.seq (.reg [⟨.l 3, .a (.box), [.l 1], none, 0, 0⟩, ⟨.l 4, .p (.mv), [.c (.int .i64 0)], none, 0, 0⟩])
 (.seq (.seq (.reg [⟨.t 5, .r (.load true 9), [.l 3], none, 0, 0⟩, ⟨.t 6, .call 29, [.t 5], none, 0, 0⟩, ⟨.l 7, .p (.un .not), [.t 6], none, 0, 0⟩])
 (.cond (.l 7) (.seq (.reg [⟨.l 4, .p (.mv), [.c (.int .i64 0)], none, 0, 0⟩])
 .ret)
 .skip))
 (.seq (.reg [⟨.t 8, .r (.load true 9), [.l 3], none, 0, 0⟩, ⟨.t 9, .call 181, [.t 8], none, 0, 0⟩, ⟨.l 4, .p (.mv), [.t 9], none, 0, 0⟩])
 .ret))),
 [.tmp (.l 4)]⟩
theorem cf118_ok : compF TP Tryz.f118 = some cf118 := by kernel_rfl
def cf119 : CF := ⟨2, (.seq (.reg [⟨.l 3, .a (.box), [.l 1], none, 0, 0⟩, ⟨.l 4, .p (.mv), [.c (.int .u64 0)], none, 0, 0⟩, ⟨.l 5, .p (.mv), [.c (.int .i64 0)], none, 0, 0⟩])
 (.seq (.block 0 (.seq (.reg [⟨.t 7, .p (.mv), [.l 0], none, 0, 0⟩, ⟨.t 8, .call 104, [.t 7], none, 0, 0⟩, ⟨.t 9, .p (.un .not), [.t 8], none, 0, 0⟩, ⟨.l 6, .p (.mv), [.t 9], none, 0, 0⟩])
 (.cond (.l 6) (.seq (.reg [⟨.l 4, .p (.mv), [.c (.int .u64 0)], none, 0, 0⟩, ⟨.l 5, .p (.mv), [.c (.int .i64 1)], none, 0, 0⟩])
 .ret)
 (.seq (.reg [⟨.t 11, .r (.load true 9), [.l 3], none, 0, 0⟩, ⟨.t 12, .call 29, [.t 11], none, 0, 0⟩, ⟨.t 13, .p (.un .not), [.t 12], none, 0, 0⟩, ⟨.l 10, .p (.mv), [.t 13], none, 0, 0⟩])
 (.cond (.l 10) (.seq (.reg [⟨.l 4, .p (.mv), [.c (.int .u64 0)], none, 0, 0⟩, ⟨.l 5, .p (.mv), [.c (.int .i64 2)], none, 0, 0⟩])
 .ret)
 (.seq (.regD [⟨.t 15, .p (.mv), [.l 0], none, 0, 0⟩, ⟨.t 17, .r (.load true 9), [.l 3], none, 0, 1⟩, ⟨.t 16, .call 182, [.t 15], none, 0, 1⟩, ⟨.t 18, .call 181, [.t 17], none, 1, 2⟩, ⟨.t 19, .p (.bin .lss), [.t 16, .t 18], none, 2, 2⟩, ⟨.l 14, .p (.mv), [.t 19], none, 2, 2⟩])
 (.cond (.l 14) (.seq (.reg [⟨.l 4, .p (.mv), [.c (.int .u64 0)], none, 0, 0⟩, ⟨.l 5, .p (.mv), [.c (.int .i64 5)], none, 0, 0⟩])
 .ret)
 .skip)))))))
 (.seq (.reg [⟨.t 20, .p (.mv), [.l 0], none, 0, 0⟩, ⟨.t 21, .r (.load true 9), [.l 3], none, 0, 0⟩, ⟨.t 22, .call 183, [.t 20, .t 21], none, 0, 0⟩, ⟨.l 4, .p (.mv), [.t 22], none, 0, 0⟩, ⟨.l 5, .p (.mv), [.c (.int .i64 0)], none, 0, 0⟩])
 .ret))),
 [.tmp (.l 4), .tmp (.l 5)]⟩
theorem cf119_ok : compF TP Tryz.f119 = some cf119 := by kernel_rfl
def cf120 : CF := ⟨2, (.seq (.reg [⟨.l 4, .a (.alloc [(.int .i64 0), (.int .i64 0), (.int .i64 0), (.str 0 0), (.str 0 0), (.int .i64 0), .nils, (.str 0 0), (.int .i64 0)]), [], none, 0, 0⟩])
 (.seq (.reg [⟨.t 8, .p (.mv), [.l 0], none, 0, 0⟩, ⟨.t 9, .p (.nilc), [.t 8], none, 0, 0⟩, ⟨.t 10, .p (.fa 10), [.t 9], none, 0, 0⟩, ⟨.t 11, .r (.load false 1), [.t 10], none, 0, 0⟩, ⟨.t 12, .p (.mv), [.l 1], none, 0, 0⟩, ⟨.t 13, .call 184, [.t 11, .t 12], none, 0, 0⟩, ⟨.t 7, .p (.mv), [.t 13], none, 0, 0⟩, ⟨.t 14, .p (.ext 0), [.t 7], none, 0, 0⟩, ⟨.t 15, .p (.ext 1), [.t 7], none, 0, 0⟩, ⟨.l 5, .a (.alloc [(.int .i64 0), (.int .i64 0), (.int .i64 0), (.str 0 0), (.str 0 0), (.int .i64 0), .nils, (.str 0 0), (.int .i64 0)]), [], none, 0, 0⟩, ⟨.no, .e (.store 9), [.l 5, .t 14], none, 0, 0⟩, ⟨.t 6, .p (.mv), [.t 15], none, 0, 0⟩])
 (.seq (.reg [⟨.t 16, .r (.load true 9), [.l 5], none, 0, 0⟩, ⟨.no, .e (.store 9), [.l 4, .t 16], none, 0, 0⟩])
 .ret))),
 [.cell (.l 4) true 9]⟩
theorem cf120_ok : compF TP Tryz.f120 = some cf120 := by kernel_rfl
def cf123 : CF := ⟨1, (.seq (.reg [⟨.l 2, .p (.mv), [.c (.bool false)], none, 0, 0⟩])
 (.seq (.reg [⟨.t 3, .p (.mv), [.l 0], none, 0, 0⟩, ⟨.t 4, .r (.eq (.one .p) true), [.t 3, .c .nilp], none, 0, 0⟩, ⟨.t 5, .p (.mv), [.t 4], none, 0, 0⟩, ⟨.t 6, .p (.mv), [.l 0], (some (.t 5, true)), 0, 0⟩, ⟨.t 7, .p (.nilc), [.t 6], (some (.t 5, true)), 0, 0⟩, ⟨.t 8, .p (.fa 0), [.t 7], (some (.t 5, true)), 0, 0⟩, ⟨.t 9, .p (.fa 6), [.t 8], (some (.t 5, true)), 0, 0⟩, ⟨.t 10, .r (.load false 1), [.t 9], (some (.t 5, true)), 0, 0⟩, ⟨.t 11, .p (.eqd .m true), [.t 10, .c .nilm], (some (.t 5, true)), 0, 0⟩, ⟨.t 12, .p (.pick), [.t 5, .t 11, .c (.bool false)], none, 0, 0⟩, ⟨.l 2, .p (.mv), [.t 12], none, 0, 0⟩])
 .ret)),
 [.tmp (.l 2)]⟩
theorem cf123_ok : compF TP Tryz.f123 = some cf123 := by kernel_rfl
def cf124 : CF := ⟨1, (.seq (.reg [⟨.l 2, .a (.alloc [(.str 0 0), (.int .i64 0), .nils, .nils, .nils, .nils]), [], none, 0, 0⟩])
 (.seq (.seq (.reg [⟨.t 3, .p (.mv), [.l 0], none, 0, 0⟩, ⟨.t 4, .call 123, [.t 3], none, 0, 0⟩, ⟨.l 5, .p (.un .not), [.t 4], none, 0, 0⟩])
 (.cond (.l 5) (.seq (.reg [⟨.t 6, .p (.build [(.str 0 0), (.int .i64 0), .nils, .nils, .nils, .nils] []), [], none, 0, 0⟩, ⟨.no, .e (.store 6), [.l 2, .t 6], none, 0, 0⟩])
 .ret)
 .skip))
 (.seq (.reg [⟨.t 7, .p (.mv), [.l 0], none, 0, 0⟩, ⟨.t 8, .p (.nilc), [.t 7], none, 0, 0⟩, ⟨.t 9, .p (.fa 0), [.t 8], none, 0, 0⟩, ⟨.t 10, .p (.fa 0), [.t 9], none, 0, 0⟩, ⟨.t 11, .r (.load true 6), [.t 10], none, 0, 0⟩, ⟨.t 12, .call 46, [.t 11], none, 0, 0⟩, ⟨.no, .e (.store 6), [.l 2, .t 12], none, 0, 0⟩])
 .ret))),
 [.cell (.l 2) true 6]⟩
theorem cf124_ok : compF TP Tryz.f124 = some cf124 := by kernel_rfl
def cf126 : CF := ⟨2, (.seq (.reg [⟨.l 4, .p (.mv), [.c (.int .i64 0)], none, 0, 0⟩])
 (.seq (.seq (.reg [⟨.t 12, .p (.mv), [.l 0], none, 0, 0⟩, ⟨.t 13, .p (.mv), [.l 1], none, 0, 0⟩, ⟨.t 14, .call 186, [.t 12, .t 13], none, 0, 0⟩, ⟨.l 15, .p (.un .not), [.t 14], none, 0, 0⟩])
 (.cond (.l 15) (.seq (.reg [⟨.l 4, .p (.mv), [.c (.int .i64 0)], none, 0, 0⟩])
 .ret)
 .skip))
 (.seq (.seq (.reg [⟨.t 17, .p (.mv), [.l 1], none, 0, 0⟩, ⟨.t 18, .call 187, [.t 17], none, 0, 0⟩, ⟨.t 16, .p (.mv), [.t 18], none, 0, 0⟩, ⟨.t 19, .p (.ext 0), [.t 16], none, 0, 0⟩, ⟨.t 20, .p (.ext 1), [.t 16], none, 0, 0⟩, ⟨.t 5, .p (.mv), [.t 19], none, 0, 0⟩, ⟨.l 6, .p (.mv), [.t 20], none, 0, 0⟩])
 (.seq (.reg [⟨.l 21, .p (.mv), [.l 6], none, 0, 0⟩])
 (.cond (.l 21) (.seq (.reg [⟨.l 4, .p (.mv), [.c (.int .i64 1)], none, 0, 0⟩])
 .ret)
 .skip)))
 (.seq (.seq (.reg [⟨.t 23, .p (.mv), [.l 1], none, 0, 0⟩, ⟨.t 24, .call 188, [.t 23], none, 0, 0⟩, ⟨.t 22, .p (.mv), [.t 24], none, 0, 0⟩, ⟨.t 25, .p (.ext 0), [.t 22], none, 0, 0⟩, ⟨.t 26, .p (.ext 1), [.t 22], none, 0, 0⟩, ⟨.t 7, .p (.mv), [.t 25], none, 0, 0⟩, ⟨.l 8, .p (.mv), [.t 26], none, 0, 0⟩])
 (.seq (.reg [⟨.l 27, .p (.mv), [.l 8], none, 0, 0⟩])
 (.cond (.l 27) (.seq (.reg [⟨.l 4, .p (.mv), [.c (.int .i64 2)], none, 0, 0⟩])
 .ret)
 .skip)))
 (.seq (.reg [⟨.t 29, .p (.mv), [.l 0], none, 0, 0⟩, ⟨.t 30, .p (.nilc), [.t 29], none, 0, 0⟩, ⟨.t 31, .p (.fa 0), [.t 30], none, 0, 0⟩, ⟨.t 32, .p (.mv), [.l 1], none, 0, 0⟩, ⟨.t 33, .call 127, [.t 31, .t 32], none, 0, 0⟩, ⟨.t 28, .p (.mv), [.t 33], none, 0, 0⟩, ⟨.t 34, .p (.ext 0), [.t 28], none, 0, 0⟩, ⟨.t 35, .p (.ext 1), [.t 28], none, 0, 0⟩, ⟨.t 36, .p (.ext 2), [.t 28], none, 0, 0⟩, ⟨.l 9, .p (.mv), [.t 34], none, 0, 0⟩, ⟨.t 10, .p (.mv), [.t 35], none, 0, 0⟩, ⟨.l 11, .p (.mv), [.t 36], none, 0, 0⟩])
 (.seq (.seq (.reg [⟨.t 37, .p (.mv), [.l 11], none, 0, 0⟩, ⟨.l 38, .p (.un .not), [.t 37], none, 0, 0⟩])
 (.cond (.l 38) (.seq (.reg [⟨.l 4, .p (.mv), [.c (.int .i64 8)], none, 0, 0⟩])
 .ret)
 .skip))
 (.seq (.reg [⟨.t 39, .p (.build [(.int .i64 0), (.int .i64 0), (.int .i64 0), (.int .i64 0), (.int .i64 0), (.int .i64 0), (.int .i64 0), (.int .i64 0), (.int .i64 0)] [(0, 1), (1, 1), (2, 1), (3, 1), (4, 1), (5, 1), (6, 1), (7, 1), (8, 1)]), [.c (.int .i64 9), .c (.int .i64 7), .c (.int .i64 4), .c (.int .i64 5), .c (.int .i64 6), .c (.int .i64 3), .c (.int .i64 1), .c (.int .i64 10), .c (.int .i64 10)], none, 0, 0⟩, ⟨.t 40, .p (.mv), [.l 9], none, 0, 0⟩, ⟨.t 41, .p (.ixarr false 9 1), [.t 39, .t 40], none, 0, 0⟩, ⟨.l 4, .p (.mv), [.t 41], none, 0, 0⟩])
 .ret))))))),
 [.tmp (.l 4)]⟩
theorem cf126_ok : compF TP Tryz.f126 = some cf126 := by kernel_rfl
def cf127 : CF := ⟨2, (.seq (.reg [⟨.l 4, .p (.mv), [.c (.int .i64 0)], none, 0, 0⟩, ⟨.l 5, .p (.mv), [.c .nils], none, 0, 0⟩, ⟨.l 6, .p (.mv), [.c (.bool false)], none, 0, 0⟩])
 (.seq (.reg [⟨.t 11, .p (.mv), [.l 1], none, 0, 0⟩, ⟨.t 12, .call 189, [.t 11], none, 0, 0⟩, ⟨.t 10, .p (.mv), [.t 12], none, 0, 0⟩, ⟨.t 13, .p (.ext 0), [.t 10], none, 0, 0⟩, ⟨.t 14, .p (.ext 1), [.t 10], none, 0, 0⟩, ⟨.t 15, .p (.ext 2), [.t 10], none, 0, 0⟩, ⟨.l 7, .p (.mv), [.t 13], none, 0, 0⟩, ⟨.l 8, .p (.mv), [.t 14], none, 0, 0⟩, ⟨.l 6, .p (.mv), [.t 15], none, 0, 0⟩])
 (.seq (.reg [⟨.t 16, .p (.mv), [.l 0], none, 0, 0⟩, ⟨.t 17, .p (.mv), [.l 7], none, 0, 0⟩, ⟨.t 18, .call 190, [.t 16, .t 17], none, 0, 0⟩, ⟨.l 9, .p (.mv), [.t 18], none, 0, 0⟩])
 (.seq (.seq (.reg [⟨.t 19, .p (.mv), [.l 6], none, 0, 0⟩, ⟨.t 20, .p (.un .not), [.t 19], none, 0, 0⟩, ⟨.t 21, .p (.mv), [.t 20], none, 0, 0⟩, ⟨.t 22, .p (.mv), [.l 8], (some (.t 21, false)), 0, 0⟩, ⟨.t 23, .p (.mv), [.l 9], (some (.t 21, false)), 0, 0⟩, ⟨.t 24, .p (.nilc), [.t 23], (some (.t 21, false)), 0, 0⟩, ⟨.t 25, .p (.fa 0), [.t 24], (some (.t 21, false)), 0, 0⟩, ⟨.t 26, .r (.load false 1), [.t 25], (some (.t 21, false)), 0, 0⟩, ⟨.t 27, .p (.leng .sl), [.t 26], (some (.t 21, false)), 0, 0⟩, ⟨.t 28, .p (.bin .geq), [.t 22, .t 27], (some (.t 21, false)), 0, 0⟩, ⟨.t 29, .p (.pick), [.t 21, .c (.bool true), .t 28], none, 0, 0⟩, ⟨.t 30, .p (.mv), [.t 29], none, 0, 0⟩, ⟨.t 31, .p (.mv), [.l 9], (some (.t 30, false)), 0, 0⟩, ⟨.t 32, .p (.nilc), [.t 31], (some (.t 30, false)), 0, 0⟩, ⟨.t 33, .p (.fa 1), [.t 32], (some (.t 30, false)), 0, 0⟩, ⟨.t 34, .r (.load false 1), [.t 33], (some (.t 30, false)), 0, 0⟩, ⟨.t 35, .p (.mv), [.l 8], (some (.t 30, false)), 0, 0⟩, ⟨.t 36, .p (.ixsl 1), [.t 34, .t 35], (some (.t 30, false)), 0, 0⟩, ⟨.t 37, .r (.load false 1), [.t 36], (some (.t 30, false)), 0, 0⟩, ⟨.t 38, .p (.un .not), [.t 37], (some (.t 30, false)), 0, 0⟩, ⟨.l 39, .p (.pick), [.t 30, .c (.bool true), .t 38], none, 0, 0⟩])
 (.cond (.l 39) (.seq (.reg [⟨.l 4, .p (.mv), [.c (.int .i64 0)], none, 0, 0⟩, ⟨.l 5, .p (.mv), [.c .nils], none, 0, 0⟩, ⟨.l 6, .p (.mv), [.c (.bool false)], none, 0, 0⟩])
 .ret)
 .skip))
 (.seq (.reg [⟨.t 41, .p (.mv), [.l 9], none, 0, 0⟩, ⟨.t 42, .p (.mv), [.l 8], none, 0, 0⟩, ⟨.t 43, .call 191, [.t 41, .t 42], none, 0, 0⟩, ⟨.t 40, .p (.mv), [.t 43], none, 0, 0⟩, ⟨.t 44, .p (.ext 0), [.t 40], none, 0, 0⟩, ⟨.t 45, .p (.ext 1), [.t 40], none, 0, 0⟩, ⟨.l 4, .p (.mv), [.t 44], none, 0, 0⟩, ⟨.l 5, .p (.mv), [.t 45], none, 0, 0⟩])
 (.seq (.seq (.reg [⟨.t 46, .p (.mv), [.l 4], none, 0, 0⟩, ⟨.t 47, .p (.bin .eql), [.t 46, .c (.int .i64 0)], none, 0, 0⟩, ⟨.t 48, .p (.mv), [.l 1], none, 0, 0⟩, ⟨.t 49, .call 192, [.t 48], none, 0, 0⟩, ⟨.t 50, .p (.bin .eql), [.t 49, .c (.int .i64 1)], none, 0, 0⟩, ⟨.l 51, .p (.eqd .b true), [.t 47, .t 50], none, 0, 0⟩])
 (.cond (.l 51) (.seq (.reg [⟨.l 4, .p (.mv), [.c (.int .i64 0)], none, 0, 0⟩, ⟨.l 5, .p (.mv), [.c .nils], none, 0, 0⟩, ⟨.l 6, .p (.mv), [.c (.bool false)], none, 0, 0⟩])
 .ret)
 .skip))
 (.seq (.reg [⟨.t 52, .p (.mv), [.l 4], none, 0, 0⟩, ⟨.t 53, .p (.mv), [.l 5], none, 0, 0⟩, ⟨.l 4, .p (.mv), [.t 52], none, 0, 0⟩, ⟨.l 5, .p (.mv), [.t 53], none, 0, 0⟩, ⟨.l 6, .p (.mv), [.c (.bool true)], none, 0, 0⟩])
 .ret))))))),
 [.tmp (.l 4), .tmp (.l 5), .tmp (.l 6)]⟩
theorem cf127_ok : compF TP Tryz.f127 = some cf127 := by kernel_rfl
def cf129 : CF := ⟨2, (.seq (.reg [⟨.l 2, .a (.box), [.l 0], none, 0, 0⟩, ⟨.l 4, .p (.mv), [.c (.bool false)], none, 0, 0⟩])
 (.seq (.reg [⟨.t 5, .p (.mv), [.l 1], none, 0, 0⟩, ⟨.t 6, .p (.mkf (.func 194) 0), [.l 2], none, 0, 0⟩, ⟨.t 7, .call 193, [.t 5, .t 6], none, 0, 0⟩, ⟨.t 8, .p (.un .not), [.t 7], none, 0, 0⟩, ⟨.l 4, .p (.mv), [.t 8], none, 0, 0⟩])
 .ret)),
 [.tmp (.l 4)]⟩
theorem cf129_ok : compF TP Tryz.f129 = some cf129 := by kernel_rfl
def cf130 : CF := ⟨4, (.seq (.reg [⟨.l 8, .p (.mv), [.c .nils], none, 0, 0⟩, ⟨.l 9, .p (.mv), [.c (.int .i64 0)], none, 0, 0⟩])
 (.seq (.reg [⟨.t 16, .p (.mv), [.l 0], none, 0, 0⟩, ⟨.t 17, .p (.mkf (.func 195) 1), [.t 16], none, 0, 0⟩, ⟨.l 10, .p (.mv), [.t 17], none, 0, 0⟩])
 (.seq (.seq (.reg [⟨.l 18, .p (.mv), [.l 1], none, 0, 0⟩])
 (.cond (.l 18) (.reg [⟨.t 19, .p (.mv), [.l 0], none, 0, 0⟩, ⟨.t 20, .p (.mkf (.func 196) 1), [.t 19], none, 0, 0⟩, ⟨.l 10, .p (.mv), [.t 20], none, 0, 0⟩])
 .skip))
 (.seq (.reg [⟨.t 22, .p (.mv), [.l 10], none, 0, 0⟩, ⟨.t 23, .p (.mv), [.l 0], none, 0, 0⟩, ⟨.t 24, .p (.nilc), [.t 23], none, 0, 0⟩, ⟨.t 25, .p (.fa 0), [.t 24], none, 0, 0⟩, ⟨.t 26, .r (.load false 1), [.t 25], none, 0, 0⟩, ⟨.t 27, .call 197, [.t 26], none, 0, 0⟩, ⟨.t 28, .p (.mv), [.l 3], none, 0, 0⟩, ⟨.t 29, .callv, [.t 22, .t 27, .t 28], none, 0, 0⟩, ⟨.t 21, .p (.mv), [.t 29], none, 0, 0⟩, ⟨.t 30, .p (.ext 0), [.t 21], none, 0, 0⟩, ⟨.t 31, .p (.ext 1), [.t 21], none, 0, 0⟩, ⟨.t 32, .p (.ext 2), [.t 21], none, 0, 0⟩, ⟨.l 11, .a (.alloc [.nils, .nils, (.int .i64 0)]), [], none, 0, 0⟩, ⟨.no, .e (.store 3), [.l 11, .t 30], none, 0, 0⟩, ⟨.l 12, .p (.mv), [.t 31], none, 0, 0⟩, ⟨.l 13, .p (.mv), [.t 32], none, 0, 0⟩])
 (.seq (.seq (.reg [⟨.t 33, .p (.mv), [.l 13], none, 0, 0⟩, ⟨.l 34, .p (.bin .neq), [.t 33, .c (.int .i64 0)], none, 0, 0⟩])
 (.cond (.l 34) (.seq (.reg [⟨.t 35, .p (.mv), [.l 13], none, 0, 0⟩, ⟨.l 8, .p (.mv), [.c .nils], none, 0, 0⟩, ⟨.l 9, .p (.mv), [.t 35], none, 0, 0⟩])
 .ret)
 .skip))
 (.seq (.reg [⟨.t 36, .p (.mv), [.l 0], none, 0, 0⟩, ⟨.t 37, .p (.nilc), [.t 36], none, 0, 0⟩, ⟨.t 38, .p (.fa 1), [.t 37], none, 0, 0⟩, ⟨.t 39, .p (.fa 0), [.t 38], none, 0, 0⟩, ⟨.t 40, .r (.load false 1), [.t 39], none, 0, 0⟩, ⟨.l 14, .p (.mv), [.t 40], none, 0, 0⟩])
 (.seq (.block 0 (.loop (.seq (.seq (.reg [⟨.t 41, .p (.mv), [.l 14], none, 0, 0⟩, ⟨.t 42, .p (.fa 0), [.l 11], none, 0, 0⟩, ⟨.t 43, .r (.load false 1), [.t 42], none, 0, 0⟩, ⟨.t 44, .p (.leng .sl), [.t 43], none, 0, 0⟩, ⟨.t 45, .p (.mv), [.l 2], none, 0, 0⟩, ⟨.t 46, .p (.bin .add), [.t 44, .t 45], none, 0, 0⟩, ⟨.l 47, .p (.bin .lss), [.t 41, .t 46], none, 0, 0⟩])
 (.cond (.l 47) .skip
 (.exit 0)))
 (.block 1 (.reg [⟨.t 48, .p (.mv), [.l 14], none, 0, 0⟩, ⟨.t 49, .p (.bin .mul), [.t 48, .c (.int .i64 2)], none, 0, 0⟩, ⟨.l 14, .p (.mv), [.t 49], none, 0, 0⟩])))))
 (.seq (.seq (.regD [⟨.t 50, .p (.mv), [.l 0], none, 0, 0⟩, ⟨.t 51, .p (.nilc), [.t 50], none, 0, 0⟩, ⟨.t 52, .p (.fa 0), [.t 51], none, 0, 0⟩, ⟨.t 53, .r (.load false 1), [.t 52], none, 0, 0⟩, ⟨.t 54, .r (.load true 3), [.l 11], none, 0, 0⟩, ⟨.t 55, .p (.mv), [.l 14], none, 0, 0⟩, ⟨.t 56, .call 198, [.t 53, .t 54, .t 55], none, 0, 1⟩, ⟨.l 15, .p (.mv), [.t 56], none, 1, 1⟩])
 (.seq (.reg [⟨.t 57, .p (.mv), [.l 15], none, 0, 0⟩, ⟨.l 58, .p (.bin .neq), [.t 57, .c (.int .i64 0)], none, 0, 0⟩])
 (.cond (.l 58) (.seq (.reg [⟨.t 59, .p (.mv), [.l 15], none, 0, 0⟩, ⟨.l 8, .p (.mv), [.c .nils], none, 0, 0⟩, ⟨.l 9, .p (.mv), [.t 59], none, 0, 0⟩])
 .ret)
 .skip)))
 (.seq (.reg [⟨.t 60, .p (.mv), [.l 12], none, 0, 0⟩, ⟨.l 8, .p (.mv), [.t 60], none, 0, 0⟩, ⟨.l 9, .p (.mv), [.c (.int .i64 0)], none, 0, 0⟩])
 .ret))))))))),
 [.tmp (.l 8), .tmp (.l 9)]⟩
theorem cf130_ok : compF TP Tryz.f130 = some cf130 := by kernel_rfl
def cf131 : CF := ⟨1, (.seq (.reg [⟨.l 1, .a (.box), [.l 0], none, 0, 0⟩, ⟨.l 2, .p (.mv), [.c (.bool false)], none, 0, 0⟩])
 (.seq (.reg [⟨.t 3, .p (.fa 0), [.l 1], none, 0, 0⟩, ⟨.t 4, .r (.load false 1), [.t 3], none, 0, 0⟩, ⟨.t 5, .p (.bin .eql), [.t 4, .c (.int .i64 0)], none, 0, 0⟩, ⟨.t 6, .p (.mv), [.t 5], none, 0, 0⟩, ⟨.t 7, .p (.fa 1), [.l 1], (some (.t 6, true)), 0, 0⟩, ⟨.t 8, .r (.load false 1), [.t 7], (some (.t 6, true)), 0, 0⟩, ⟨.t 9, .p (.bin .eql), [.t 8, .c (.int .i64 0)], (some (.t 6, true)), 0, 0⟩, ⟨.t 10, .p (.pick), [.t 6, .t 9, .c (.bool false)], none, 0, 0⟩, ⟨.t 11, .p (.mv), [.t 10], none, 0, 0⟩, ⟨.t 12, .p (.fa 2), [.l 1], (some (.t 11, true)), 0, 0⟩, ⟨.t 13, .r (.load false 1), [.t 12], (some (.t 11, true)), 0, 0⟩, ⟨.t 14, .p (.bin .eql), [.t 13, .c (.int .i64 0)], (some (.t 11, true)), 0, 0⟩, ⟨.t 15, .p (.pick), [.t 11, .t 14, .c (.bool false)], none, 0, 0⟩, ⟨.t 16, .p (.mv), [.t 15], none, 0, 0⟩, ⟨.t 17, .p (.fa 3), [.l 1], (some (.t 16, true)), 0, 0⟩, ⟨.t 18, .r (.load false 1), [.t 17], (some (.t 16, true)), 0, 0⟩, ⟨.t 19, .p (.bin .eql), [.t 18, .c (.str 0 0)], (some (.t 16, true)), 0, 0⟩, ⟨.t 20, .p (.pick), [.t 16, .t 19, .c (.bool false)], none, 0, 0⟩, ⟨.t 21, .p (.mv), [.t 20], none, 0, 0⟩, ⟨.t 22, .p (.fa 4), [.l 1], (some (.t 21, true)), 0, 0⟩, ⟨.t 23, .r (.load false 1), [.t 22], (some (.t 21, true)), 0, 0⟩, ⟨.t 24, .p (.bin .eql), [.t 23, .c (.str 0 0)], (some (.t 21, true)), 0, 0⟩, ⟨.t 25, .p (.pick), [.t 21, .t 24, .c (.bool false)], none, 0, 0⟩, ⟨.t 26, .p (.mv), [.t 25], none, 0, 0⟩, ⟨.t 27, .p (.fa 5), [.l 1], (some (.t 26, true)), 0, 0⟩, ⟨.t 28, .r (.load false 1), [.t 27], (some (.t 26, true)), 0, 0⟩, ⟨.t 29, .p (.bin .eql), [.t 28, .c (.int .i64 0)], (some (.t 26, true)), 0, 0⟩, ⟨.t 30, .p (.pick), [.t 26, .t 29, .c (.bool false)], none, 0, 0⟩, ⟨.t 31, .p (.mv), [.t 30], none, 0, 0⟩, ⟨.t 32, .p (.fa 6), [.l 1], (some (.t 31, true)), 0, 0⟩, ⟨.t 33, .r (.load false 1), [.t 32], (some (.t 31, true)), 0, 0⟩, ⟨.t 34, .p (.leng .sl), [.t 33], (some (.t 31, true)), 0, 0⟩, ⟨.t 35, .p (.bin .eql), [.t 34, .c (.int .i64 0)], (some (.t 31, true)), 0, 0⟩, ⟨.t 36, .p (.pick), [.t 31, .t 35, .c (.bool false)], none, 0, 0⟩, ⟨.t 37, .p (.mv), [.t 36], none, 0, 0⟩, ⟨.t 38, .p (.fa 7), [.l 1], (some (.t 37, true)), 0, 0⟩, ⟨.t 39, .r (.load false 1), [.t 38], (some (.t 37, true)), 0, 0⟩, ⟨.t 40, .p (.bin .eql), [.t 39, .c (.str 0 0)], (some (.t 37, true)), 0, 0⟩, ⟨.t 41, .p (.pick), [.t 37, .t 40, .c (.bool false)], none, 0, 0⟩, ⟨.t 42, .p (.mv), [.t 41], none, 0, 0⟩, ⟨.t 43, .p (.fa 8), [.l 1], (some (.t 42, true)), 0, 0⟩, ⟨.t 44, .r (.load false 1), [.t 43], (some (.t 42, true)), 0, 0⟩, ⟨.t 45, .p (.bin .eql), [.t 44, .c (.int .i64 0)], (some (.t 42, true)), 0, 0⟩, ⟨.t 46, .p (.pick), [.t 42, .t 45, .c (.bool false)], none, 0, 0⟩, ⟨.l 2, .p (.mv), [.t 46], none, 0, 0⟩])
 .ret)),
 [.tmp (.l 2)]⟩
theorem cf131_ok : compF TP Tryz.f131 = some cf131 := by kernel_rfl
def cf132 : CF := ⟨1, (.seq (.reg [⟨.l 1, .a (.box), [.l 0], none, 0, 0⟩, ⟨.l 2, .a (.alloc [(.int .i64 0), (.int .i64 0), (.int .i64 0), (.str 0 0), (.str 0 0), (.int .i64 0), .nils, (.str 0 0), (.int .i64 0)]), [], none, 0, 0⟩])
 (.seq (.seq (.reg [⟨.t 3, .p (.fa 0), [.l 1], none, 0, 0⟩, ⟨.l 4, .r (.load false 1), [.t 3], none, 0, 0⟩])
 (.block 0 (.seq (.reg [⟨.t 6, .p (.bin .eql), [.l 4, .c (.int .i64 1)], none, 0, 0⟩, ⟨.l 5, .p (.mv), [.t 6], none, 0, 0⟩])
 (.cond (.l 5) (.reg [⟨.t 7, .p (.fa 1), [.l 1], none, 0, 0⟩, ⟨.no, .e (.store 1), [.t 7, .c (.int .i64 0)], none, 0, 0⟩])
 (.seq (.reg [⟨.t 9, .p (.bin .eql), [.l 4, .c (.int .i64 2)], none, 0, 0⟩, ⟨.l 8, .p (.mv), [.t 9], none, 0, 0⟩])
 (.cond (.l 8) (.reg [⟨.t 10, .p (.fa 3), [.l 1], none, 0, 0⟩, ⟨.no, .e (.store 1), [.t 10, .c (.str 0 0)], none, 0, 0⟩])
 (.seq (.seq (.reg [⟨.t 12, .p (.bin .eql), [.l 4, .c (.int .i64 3)], none, 0, 0⟩, ⟨.l 11, .p (.mv), [.t 12], none, 0, 0⟩])
 (.cond (.l 11) .skip
 (.reg [⟨.t 13, .p (.bin .eql), [.l 4, .c (.int .i64 6)], none, 0, 0⟩, ⟨.l 11, .p (.mv), [.t 13], none, 0, 0⟩])))
 (.cond (.l 11) (.reg [⟨.t 14, .p (.fa 1), [.l 1], none, 0, 0⟩, ⟨.no, .e (.store 1), [.t 14, .c (.int .i64 0)], none, 0, 0⟩, ⟨.t 15, .p (.fa 2), [.l 1], none, 0, 0⟩, ⟨.no, .e (.store 1), [.t 15, .c (.int .i64 0)], none, 0, 0⟩, ⟨.t 16, .p (.fa 3), [.l 1], none, 0, 0⟩, ⟨.no, .e (.store 1), [.t 16, .c (.str 0 0)], none, 0, 0⟩])
 (.seq (.reg [⟨.t 18, .p (.bin .eql), [.l 4, .c (.int .i64 4)], none, 0, 0⟩, ⟨.l 17, .p (.mv), [.t 18], none, 0, 0⟩])
 (.cond (.l 17) (.reg [⟨.t 19, .p (.fa 1), [.l 1], none, 0, 0⟩, ⟨.no, .e (.store 1), [.t 19, .c (.int .i64 0)], none, 0, 0⟩, ⟨.t 20, .p (.fa 2), [.l 1], none, 0, 0⟩, ⟨.no, .e (.store 1), [.t 20, .c (.int .i64 0)], none, 0, 0⟩, ⟨.t 21, .p (.fa 3), [.l 1], none, 0, 0⟩, ⟨.no, .e (.store 1), [.t 21, .c (.str 0 0)], none, 0, 0⟩, ⟨.t 22, .p (.fa 5), [.l 1], none, 0, 0⟩, ⟨.no, .e (.store 1), [.t 22, .c (.int .i64 0)], none, 0, 0⟩, ⟨.t 23, .p (.fa 6), [.l 1], none, 0, 0⟩, ⟨.no, .e (.store 1), [.t 23, .c .nils], none, 0, 0⟩])
 (.seq (.reg [⟨.t 25, .p (.bin .eql), [.l 4, .c (.int .i64 5)], none, 0, 0⟩, ⟨.l 24, .p (.mv), [.t 25], none, 0, 0⟩])
 (.cond (.l 24) (.reg [⟨.t 26, .p (.fa 3), [.l 1], none, 0, 0⟩, ⟨.no, .e (.store 1), [.t 26, .c (.str 0 0)], none, 0, 0⟩, ⟨.t 27, .p (.fa 4), [.l 1], none, 0, 0⟩, ⟨.no, .e (.store 1), [.t 27, .c (.str 0 0)], none, 0, 0⟩, ⟨.t 28, .p (.fa 5), [.l 1], none, 0, 0⟩, ⟨.no, .e (.store 1), [.t 28, .c (.int .i64 0)], none, 0, 0⟩])
 (.seq (.seq (.reg [⟨.t 30, .p (.bin .eql), [.l 4, .c (.int .i64 7)], none, 0, 0⟩, ⟨.l 29, .p (.mv), [.t 30], none, 0, 0⟩])
 (.cond (.l 29) .skip
 (.reg [⟨.t 31, .p (.bin .eql), [.l 4, .c (.int .i64 9)], none, 0, 0⟩, ⟨.l 29, .p (.mv), [.t 31], none, 0, 0⟩])))
 (.cond (.l 29) (.reg [⟨.t 32, .p (.fa 6), [.l 1], none, 0, 0⟩, ⟨.no, .e (.store 1), [.t 32, .c .nils], none, 0, 0⟩])
 (.seq (.reg [⟨.t 34, .p (.bin .eql), [.l 4, .c (.int .i64 10)], none, 0, 0⟩, ⟨.l 33, .p (.mv), [.t 34], none, 0, 0⟩])
 (.cond (.l 33) (.reg [⟨.t 35, .p (.fa 7), [.l 1], none, 0, 0⟩, ⟨.no, .e (.store 1), [.t 35, .c (.str 0 0)], none, 0, 0⟩, ⟨.t 36, .p (.fa 8), [.l 1], none, 0, 0⟩, ⟨.no, .e (.store 1), [.t 36, .c (.int .i64 0)], none, 0, 0⟩])
 .skip))))))))))))))))
 (.seq (.reg [⟨.t 37, .p (.fa 0), [.l 1], none, 0, 0⟩, ⟨.no, .e (.store 1), [.t 37, .c (.int .i64 0)], none, 0, 0⟩])
 (.seq (.reg [⟨.t 38, .r (.load true 9), [.l 1], none, 0, 0⟩, ⟨.no, .e (.store 9), [.l 2, .t 38], none, 0, 0⟩])
 .ret)))),
 [.cell (.l 2) true 9]⟩
theorem cf132_ok : compF TP Tryz.f132 = some cf132 := by kernel_rfl
def cf136 : CF := ⟨1, (.seq (.reg [⟨.l 2, .p (.mv), [.c (.int .i64 0)], none, 0, 0⟩, ⟨.l 3, .p (.mv), [.c (.bool false)], none, 0, 0⟩])
 (.seq (.reg [⟨.t 8, .call 199, [], none, 0, 0⟩, ⟨.t 9, .p (.build [.nilf, .nilf, .nilf, .nilf, .nilf, .nilf, .nilf, .nilf, .nilf, .nilf, .nilf, (.int .i64 0)] [(0, 11)]), [.t 8], none, 0, 0⟩, ⟨.t 10, .a (.box), [.t 9], none, 0, 0⟩, ⟨.l 4, .p (.mv), [.t 10], none, 0, 0⟩])
 (.seq (.reg [⟨.t 11, .p (.mv), [.l 4], none, 0, 0⟩, ⟨.t 12, .p (.mkf (.func 200) 1), [.t 11], none, 0, 0⟩, ⟨.l 5, .p (.mv), [.t 12], none, 0, 0⟩])
 (.seq (.seq (.reg [⟨.l 13, .p (.mv), [.l 0], none, 0, 0⟩, ⟨.l 14, .p (.leng .sl), [.l 13], none, 0, 0⟩, ⟨.l 15, .p (.mv), [.c (.int .i64 0)], none, 0, 0⟩])
 (.block 0 (.loop (.seq (.reg [⟨.l 16, .p (.bin .lss), [.l 15, .l 14], none, 0, 0⟩])
 (.seq (.cond (.l 16) .skip
 (.exit 0))
 (.seq (.block 1 (.seq (.reg [⟨.t 17, .p (.ixsl 9), [.l 13, .l 15], none, 0, 0⟩, ⟨.t 18, .r (.load true 9), [.t 17], none, 0, 0⟩, ⟨.l 7, .a (.alloc [(.int .i64 0), (.int .i64 0), (.int .i64 0), (.str 0 0), (.str 0 0), (.int .i64 0), .nils, (.str 0 0), (.int .i64 0)]), [], none, 0, 0⟩, ⟨.no, .e (.store 9), [.l 7, .t 18], none, 0, 0⟩])
 (.seq (.reg [⟨.t 19, .p (.mv), [.l 5], none, 0, 0⟩, ⟨.t 20, .r (.load true 9), [.l 7], none, 0, 0⟩, ⟨.t 21, .callv, [.t 19, .t 20], none, 0, 0⟩, ⟨.l 22, .p (.un .not), [.t 21], none, 0, 0⟩])
 (.cond (.l 22) (.seq (.reg [⟨.l 2, .p (.mv), [.c (.int .i64 0)], none, 0, 0⟩, ⟨.l 3, .p (.mv), [.c (.bool false)], none, 0, 0⟩])
 .ret)
 .skip))))
 (.reg [⟨.t 23, .p (.bin .add), [.l 15, .c (.int .i64 1)], none, 0, 0⟩, ⟨.l 15, .p (.mv), [.t 23], none, 0, 0⟩])))))))
 (.seq (.reg [⟨.t 24, .p (.mv), [.l 4], none, 0, 0⟩, ⟨.t 25, .p (.nilc), [.t 24], none, 0, 0⟩, ⟨.t 26, .p (.fa 11), [.t 25], none, 0, 0⟩, ⟨.t 27, .r (.load false 1), [.t 26], none, 0, 0⟩, ⟨.l 2, .p (.mv), [.t 27], none, 0, 0⟩, ⟨.l 3, .p (.mv), [.c (.bool true)], none, 0, 0⟩])
 .ret))))),
 [.tmp (.l 2), .tmp (.l 3)]⟩
theorem cf136_ok : compF TP Tryz.f136 = some cf136 := by kernel_rfl
def cf137 : CF := ⟨1, (.seq (.reg [⟨.l 2, .p (.mv), [.c (.bool false)], none, 0, 0⟩])
 (.seq (.reg [⟨.t 3, .p (.mv), [.l 0], none, 0, 0⟩, ⟨.t 4, .r (.eq (.one .p) true), [.t 3, .c .nilp], none, 0, 0⟩, ⟨.t 5, .p (.mv), [.t 4], none, 0, 0⟩, ⟨.t 6, .p (.mv), [.l 0], (some (.t 5, true)), 0, 0⟩, ⟨.t 7, .p (.nilc), [.t 6], (some (.t 5, true)), 0, 0⟩, ⟨.t 8, .p (.fa 0), [.t 7], (some (.t 5, true)), 0, 0⟩, ⟨.t 9, .r (.load false 1), [.t 8], (some (.t 5, true)), 0, 0⟩, ⟨.t 10, .p (.eqd .m true), [.t 9, .c .nilm], (some (.t 5, true)), 0, 0⟩, ⟨.t 11, .p (.pick), [.t 5, .t 10, .c (.bool false)], none, 0, 0⟩, ⟨.l 2, .p (.mv), [.t 11], none, 0, 0⟩])
 .ret)),
 [.tmp (.l 2)]⟩
theorem cf137_ok : compF TP Tryz.f137 = some cf137 := by kernel_rfl
def cf138 : CF := ⟨3, (.seq (.reg [⟨.l 4, .a (.box), [.l 1], none, 0, 0⟩])
 (.seq (.seq (.reg [⟨.t 6, .p (.fa 0), [.l 4], none, 0, 0⟩, ⟨.t 7, .r (.load false 1), [.t 6], none, 0, 0⟩, ⟨.l 8, .p (.bin .eql), [.t 7, .c (.int .i64 2)], none, 0, 0⟩])
 (.cond (.l 8) (.seq (.regD [⟨.t 9, .p (.mv), [.l 0], none, 0, 0⟩, ⟨.t 11, .p (.fa 1), [.l 4], none, 0, 1⟩, ⟨.t 12, .r (.load false 1), [.t 11], none, 0, 1⟩, ⟨.t 13, .p (.mv), [.l 2], none, 0, 1⟩, ⟨.t 10, .call 201, [.t 9], none, 0, 1⟩, ⟨.t 14, .p (.ixsl 1), [.t 10, .t 12], none, 1, 1⟩, ⟨.no, .e (.store 1), [.t 14, .t 13], none, 1, 2⟩])
 .ret)
 .skip))
 (.regD [⟨.t 15, .p (.mv), [.l 0], none, 0, 0⟩, ⟨.t 16, .p (.fa 1), [.l 4], none, 0, 0⟩, ⟨.t 17, .r (.load false 1), [.t 16], none, 0, 0⟩, ⟨.t 18, .p (.mv), [.l 2], none, 0, 0⟩, ⟨.t 19, .p (.nilc), [.t 15], none, 0, 0⟩, ⟨.t 20, .p (.fa 54), [.t 19], none, 0, 0⟩, ⟨.t 21, .p (.ixarrp 256 1), [.t 20, .t 17], none, 0, 0⟩, ⟨.no, .e (.store 1), [.t 21, .t 18], none, 0, 1⟩]))),
 []⟩
theorem cf138_ok : compF TP Tryz.f138 = some cf138 := by kernel_rfl
def cf139 : CF := ⟨3, (.seq (.reg [⟨.l 6, .p (.mv), [.c .nils], none, 0, 0⟩])
 (.seq (.seq (.reg [⟨.l 14, .p (.mv), [.l 1], none, 0, 0⟩, ⟨.l 15, .p (.leng .sl), [.l 14], none, 0, 0⟩, ⟨.l 16, .p (.mv), [.c (.int .i64 0)], none, 0, 0⟩])
 (.block 0 (.loop (.seq (.reg [⟨.l 17, .p (.bin .lss), [.l 16, .l 15], none, 0, 0⟩])
 (.seq (.cond (.l 17) .skip
 (.exit 0))
 (.seq (.block 1 (.seq (.reg [⟨.t 18, .p (.ixsl 2), [.l 14, .l 16], none, 0, 0⟩, ⟨.t 19, .r (.load true 2), [.t 18], none, 0, 0⟩, ⟨.l 8, .a (.alloc [(.int .i64 0), (.int .i64 0)]), [], none, 0, 0⟩, ⟨.no, .e (.store 2), [.l 8, .t 19], none, 0, 0⟩])
 (.seq (.reg [⟨.t 21, .p (.mv), [.l 0], none, 0, 0⟩, ⟨.t 22, .r (.load true 2), [.l 8], none, 0, 0⟩, ⟨.t 23, .call 202, [.t 21, .t 22], none, 0, 0⟩, ⟨.t 20, .p (.mv), [.t 23], none, 0, 0⟩, ⟨.t 24, .p (.ext 0), [.t 20], none, 0, 0⟩, ⟨.t 25, .p (.ext 1), [.t 20], none, 0, 0⟩, ⟨.l 9, .a (.alloc [(.int .i64 0), (.int .i64 0), (.int .i64 0), (.str 0 0), (.str 0 0), (.int .i64 0), .nils, (.str 0 0), (.int .i64 0)]), [], none, 0, 0⟩, ⟨.no, .e (.store 9), [.l 9, .t 24], none, 0, 0⟩, ⟨.l 10, .p (.mv), [.t 25], none, 0, 0⟩])
 (.seq (.reg [⟨.l 26, .p (.mv), [.l 10], none, 0, 0⟩])
 (.cond (.l 26) (.regD [⟨.t 27, .p (.mv), [.l 2], none, 0, 1⟩, ⟨.t 28, .p (.mv), [.l 0], none, 0, 0⟩, ⟨.t 29, .p (.nilc), [.t 28], none, 0, 0⟩, ⟨.t 30, .p (.fa 10), [.t 29], none, 0, 0⟩, ⟨.t 31, .r (.load false 1), [.t 30], none, 0, 0⟩, ⟨.t 32, .r (.load true 9), [.l 9], none, 0, 0⟩, ⟨.t 33, .call 118, [.t 31, .t 32], none, 0, 1⟩, ⟨.t 34, .p (.bin .add), [.t 27, .t 33], none, 1, 1⟩, ⟨.l 2, .p (.mv), [.t 34], none, 1, 1⟩])
 .skip)))))
 (.reg [⟨.t 35, .p (.bin .add), [.l 16, .c (.int .i64 1)], none, 0, 0⟩, ⟨.l 16, .p (.mv), [.t 35], none, 0, 0⟩])))))))
 (.seq (.reg [⟨.t 36, .p (.mv), [.l 0], none, 0, 0⟩, ⟨.t 37, .p (.mv), [.l 2], none, 0, 0⟩, ⟨.t 38, .call 117, [.t 36, .t 37], none, 0, 0⟩])
 (.seq (.reg [⟨.l 11, .p (.mv), [.c .nils], none, 0, 0⟩])
 (.seq (.seq (.reg [⟨.l 39, .p (.mv), [.l 1], none, 0, 0⟩, ⟨.l 40, .p (.leng .sl), [.l 39], none, 0, 0⟩, ⟨.l 41, .p (.mv), [.c (.int .i64 0)], none, 0, 0⟩])
 (.block 2 (.loop (.seq (.reg [⟨.l 42, .p (.bin .lss), [.l 41, .l 40], none, 0, 0⟩])
 (.seq (.cond (.l 42) .skip
 (.exit 2))
 (.seq (.block 3 (.seq (.reg [⟨.t 43, .p (.ixsl 2), [.l 39, .l 41], none, 0, 0⟩, ⟨.t 44, .r (.load true 2), [.t 43], none, 0, 0⟩, ⟨.l 13, .a (.alloc [(.int .i64 0), (.int .i64 0)]), [], none, 0, 0⟩, ⟨.no, .e (.store 2), [.l 13, .t 44], none, 0, 0⟩])
 (.reg [⟨.t 45, .p (.mv), [.l 11], none, 0, 0⟩, ⟨.t 46, .p (.mv), [.l 0], none, 0, 0⟩, ⟨.t 47, .r (.load true 2), [.l 13], none, 0, 0⟩, ⟨.t 48, .call 203, [.t 46, .t 47], none, 0, 0⟩, ⟨.t 49, .a (.bslice [(.int .u64 0)] 1 1 [(0, 1)]), [.t 48], none, 0, 0⟩, ⟨.t 50, .e (.append 1 8 none), [.t 45, .t 49], none, 0, 0⟩, ⟨.l 11, .p (.mv), [.t 50], none, 0, 0⟩])))
 (.reg [⟨.t 51, .p (.bin .add), [.l 41, .c (.int .i64 1)], none, 0, 0⟩, ⟨.l 41, .p (.mv), [.t 51], none, 0, 0⟩])))))))
 (.seq (.reg [⟨.t 52, .p (.mv), [.l 11], none, 0, 0⟩, ⟨.l 6, .p (.mv), [.t 52], none, 0, 0⟩])
 .ret)))))),
 [.tmp (.l 6)]⟩
theorem cf139_ok : compF TP Tryz.f139 = some cf139 := by kernel_rfl
def cf141 : CF := ⟨2, (.seq (.reg [⟨.t 5, .p (.mv), [.l 1], none, 0, 0⟩, ⟨.l 4, .p (.mv), [.t 5], none, 0, 0⟩])
 (.block 0 (.loop (.seq (.seq (.reg [⟨.t 6, .p (.mv), [.l 4], none, 0, 0⟩, ⟨.l 7, .p (.bin .lss), [.t 6, .c (.int .i64 256)], none, 0, 0⟩])
 (.cond (.l 7) .skip
 (.exit 0)))
 (.seq (.block 1 (.regD [⟨.t 10, .p (.mv), [.l 0], none, 0, 1⟩, ⟨.t 11, .p (.mv), [.l 4], none, 0, 1⟩, ⟨.t 13, .p (.nilc), [.t 10], none, 0, 1⟩, ⟨.t 14, .p (.fa 54), [.t 13], none, 0, 1⟩, ⟨.t 12, .call 37, [], none, 0, 1⟩, ⟨.t 15, .p (.ixarrp 256 1), [.t 14, .t 11], none, 1, 1⟩, ⟨.no, .e (.store 1), [.t 15, .t 12], none, 1, 2⟩]))
 (.reg [⟨.t 8, .p (.mv), [.l 4], none, 0, 0⟩, ⟨.t 9, .p (.bin .add), [.t 8, .c (.int .i64 1)], none, 0, 0⟩, ⟨.l 4, .p (.mv), [.t 9], none, 0, 0⟩])))))),
 []⟩
theorem cf141_ok : compF TP Tryz.f141 = some cf141 := by kernel_rfl
def cf149 : CF := ⟨2, (.seq (.reg [⟨.l 2, .a (.box), [.l 0], none, 0, 0⟩, ⟨.l 3, .a (.box), [.l 1], none, 0, 0⟩, ⟨.l 4, .p (.mv), [.c (.int .i64 0)], none, 0, 0⟩])
 (.seq (.regD [⟨.t 7, .r (.load true 9), [.l 2], none, 0, 0⟩, ⟨.t 9, .r (.load true 9), [.l 3], none, 0, 1⟩, ⟨.t 8, .call 29, [.t 7], none, 0, 1⟩, ⟨.t 10, .call 29, [.t 9], none, 1, 2⟩, ⟨.l 5, .p (.mv), [.t 8], none, 2, 2⟩, ⟨.l 6, .p (.mv), [.t 10], none, 2, 2⟩])
 (.seq (.block 0 (.seq (.reg [⟨.t 12, .p (.mv), [.l 5], none, 0, 0⟩, ⟨.t 13, .p (.mv), [.t 12], none, 0, 0⟩, ⟨.t 14, .p (.mv), [.l 6], (some (.t 13, true)), 0, 0⟩, ⟨.t 15, .p (.pick), [.t 13, .t 14, .c (.bool false)], none, 0, 0⟩, ⟨.l 11, .p (.mv), [.t 15], none, 0, 0⟩])
 (.cond (.l 11) (.seq (.reg [⟨.t 16, .r (.load true 9), [.l 2], none, 0, 0⟩, ⟨.t 17, .r (.load true 9), [.l 3], none, 0, 0⟩, ⟨.t 18, .call 213, [.t 16, .t 17], none, 0, 0⟩, ⟨.l 4, .p (.mv), [.t 18], none, 0, 0⟩])
 .ret)
 (.seq (.reg [⟨.t 20, .p (.mv), [.l 5], none, 0, 0⟩, ⟨.l 19, .p (.mv), [.t 20], none, 0, 0⟩])
 (.cond (.l 19) (.seq (.reg [⟨.l 4, .p (.mv), [.c (.int .i64 1)], none, 0, 0⟩])
 .ret)
 (.seq (.reg [⟨.t 22, .p (.mv), [.l 6], none, 0, 0⟩, ⟨.l 21, .p (.mv), [.t 22], none, 0, 0⟩])
 (.cond (.l 21) (.seq (.reg [⟨.l 4, .p (.mv), [.c (.int .i64 (-1))], none, 0, 0⟩])
 .ret)
 .skip)))))))
 (.seq (.reg [⟨.l 4, .p (.mv), [.c (.int .i64 0)], none, 0, 0⟩])
 .ret)))),
 [.tmp (.l 4)]⟩
theorem cf149_ok : compF TP Tryz.f149 = some cf149 := by kernel_rfl
def cf150 : CF := ⟨3, (.seq (.reg [⟨.l 6, .a (.alloc [(.int .i64 0), (.int .i64 0), (.int .i64 0), (.str 0 0), (.str 0 0), (.int .i64 0), .nils, (.str 0 0), (.int .i64 0)]), [], none, 0, 0⟩, ⟨.l 7, .a (.alloc [(.str 0 0), (.int .i64 0), (.int .i64 0), (.int .i64 0), (.str 0 0), (.str 0 0), (.int .i64 0), .nils, (.str 0 0), (.int .i64 0)]), [], none, 0, 0⟩])
 (.seq (.reg [⟨.l 8, .a (.alloc [(.int .i64 0), (.int .i64 0), (.int .i64 0), (.str 0 0), (.str 0 0), (.int .i64 0), .nils, (.str 0 0), (.int .i64 0)]), [], none, 0, 0⟩])
 (.seq (.reg [⟨.l 9, .p (.mv), [.c (.int .i64 0)], none, 0, 0⟩])
 (.seq (.seq (.reg [⟨.l 10, .p (.mv), [.l 1], none, 0, 0⟩])
 (.block 0 (.seq (.reg [⟨.t 21, .p (.bin .eql), [.l 10, .c (.str 2 32123)], none, 0, 0⟩, ⟨.l 20, .p (.mv), [.t 21], none, 0, 0⟩])
 (.cond (.l 20) (.reg [⟨.t 23, .p (.mv), [.l 2], none, 0, 0⟩, ⟨.t 24, .call 185, [.t 23], none, 0, 0⟩, ⟨.t 22, .p (.mv), [.t 24], none, 0, 0⟩, ⟨.t 25, .p (.ext 0), [.t 22], none, 0, 0⟩, ⟨.t 26, .p (.ext 1), [.t 22], none, 0, 0⟩, ⟨.no, .e (.store 9), [.l 8, .t 25], none, 0, 0⟩, ⟨.l 9, .p (.mv), [.t 26], none, 0, 0⟩])
 (.seq (.reg [⟨.t 28, .p (.bin .eql), [.l 10, .c (.str 1 124)], none, 0, 0⟩, ⟨.l 27, .p (.mv), [.t 28], none, 0, 0⟩])
 (.cond (.l 27) (.regD [⟨.t 30, .p (.mv), [.l 2], none, 0, 0⟩, ⟨.t 31, .p (.ixsl 9), [.t 30, .c (.int .i64 0)], none, 0, 0⟩, ⟨.t 32, .r (.load true 9), [.t 31], none, 0, 0⟩, ⟨.t 33, .p (.mv), [.l 2], none, 0, 0⟩, ⟨.t 34, .p (.ixsl 9), [.t 33, .c (.int .i64 1)], none, 0, 0⟩, ⟨.t 35, .r (.load true 9), [.t 34], none, 0, 0⟩, ⟨.t 36, .call 214, [.t 32, .t 35], none, 0, 1⟩, ⟨.t 29, .p (.mv), [.t 36], none, 1, 1⟩, ⟨.t 37, .p (.ext 0), [.t 29], none, 1, 1⟩, ⟨.t 38, .p (.ext 1), [.t 29], none, 1, 2⟩, ⟨.no, .e (.store 9), [.l 8, .t 37], none, 1, 2⟩, ⟨.l 9, .p (.mv), [.t 38], none, 2, 2⟩])
 (.seq (.reg [⟨.t 11, .p (.mv), [.l 0], none, 0, 0⟩, ⟨.t 12, .p (.nilc), [.t 11], none, 0, 0⟩, ⟨.t 13, .p (.fa 0), [.t 12], none, 0, 0⟩, ⟨.t 14, .r (.load true 9), [.t 13], none, 0, 0⟩, ⟨.t 15, .p (.mv), [.l 1], none, 0, 0⟩, ⟨.t 16, .p (.mv), [.l 2], none, 0, 0⟩, ⟨.t 17, .call 215, [.t 14, .t 15, .t 16], none, 0, 0⟩, ⟨.t 18, .p (.ext 0), [.t 17], none, 0, 0⟩, ⟨.t 19, .p (.ext 1), [.t 17], none, 0, 0⟩, ⟨.no, .e (.store 9), [.l 6, .t 18], none, 0, 0⟩, ⟨.no, .e (.store 10), [.l 7, .t 19], none, 0, 0⟩])
 .ret)))))))
 (.seq (.seq (.reg [⟨.t 39, .p (.mv), [.l 9], none, 0, 0⟩, ⟨.l 40, .p (.bin .neq), [.t 39, .c (.int .i64 0)], none, 0, 0⟩])
 (.cond (.l 40) (.seq (.reg [⟨.t 41, .p (.build [(.int .i64 0), (.int .i64 0), (.int .i64 0), (.str 0 0), (.str 0 0), (.int .i64 0), .nils, (.str 0 0), (.int .i64 0)] []), [], none, 0, 0⟩, ⟨.t 42, .p (.build [(.int .i64 0), (.int .i64 0), (.int .i64 0), (.str 0 0), (.str 0 0), (.int .i64 0), .nils, (.str 0 0), (.int .i64 0)] [(0, 1), (3, 1)]), [.c (.int .i64 2), .c (.str 12 36027715032999405127646542195)], none, 0, 0⟩, ⟨.t 43, .p (.build [(.str 0 0), (.int .i64 0), (.int .i64 0), (.int .i64 0), (.str 0 0), (.str 0 0), (.int .i64 0), .nils, (.str 0 0), (.int .i64 0)] [(0, 1), (1, 9)]), [.c (.str 5 491496043109), .t 42], none, 0, 0⟩, ⟨.no, .e (.store 9), [.l 6, .t 41], none, 0, 0⟩, ⟨.no, .e (.store 10), [.l 7, .t 43], none, 0, 0⟩])
 .ret)
 .skip))
 (.seq (.reg [⟨.t 44, .r (.load true 9), [.l 8], none, 0, 0⟩, ⟨.t 45, .p (.build [(.str 0 0), (.int .i64 0), (.int .i64 0), (.int .i64 0), (.str 0 0), (.str 0 0), (.int .i64 0), .nils, (.str 0 0), (.int .i64 0)] []), [], none, 0, 0⟩, ⟨.no, .e (.store 9), [.l 6, .t 44], none, 0, 0⟩, ⟨.no, .e (.store 10), [.l 7, .t 45], none, 0, 0⟩])
 .ret)))))),
 [.cell (.l 6) true 9, .cell (.l 7) true 10]⟩
theorem cf150_ok : compF TP Tryz.f150 = some cf150 := by kernel_rfl
def cf151 : CF := ⟨2, (.seq (.reg [⟨.l 4, .p (.mv), [.c .nils], none, 0, 0⟩])
 (.seq (.reg [⟨.l 5, .p (.mv), [.c .nils], none, 0, 0⟩])
 (.seq (.seq (.reg [⟨.l 8, .p (.mv), [.l 1], none, 0, 0⟩, ⟨.l 9, .p (.leng .sl), [.l 8], none, 0, 0⟩, ⟨.l 10, .p (.mv), [.c (.int .i64 0)], none, 0, 0⟩])
 (.block 0 (.loop (.seq (.reg [⟨.l 11, .p (.bin .lss), [.l 10, .l 9], none, 0, 0⟩])
 (.seq (.cond (.l 11) .skip
 (.exit 0))
 (.seq (.block 1 (.seq (.reg [⟨.t 12, .p (.ixsl 2), [.l 8, .l 10], none, 0, 0⟩, ⟨.t 13, .r (.load true 2), [.t 12], none, 0, 0⟩, ⟨.l 7, .a (.alloc [(.int .i64 0), (.int .i64 0)]), [], none, 0, 0⟩, ⟨.no, .e (.store 2), [.l 7, .t 13], none, 0, 0⟩])
 (.reg [⟨.t 14, .p (.mv), [.l 5], none, 0, 0⟩, ⟨.t 15, .p (.mv), [.l 0], none, 0, 0⟩, ⟨.t 16, .r (.load true 2), [.l 7], none, 0, 0⟩, ⟨.t 17, .call 160, [.t 15, .t 16], none, 0, 0⟩, ⟨.t 18, .a (.bslice [(.int .i64 0), (.int .i64 0), (.int .i64 0), (.str 0 0), (.str 0 0), (.int .i64 0), .nils, (.str 0 0), (.int .i64 0)] 1 9 [(0, 9)]), [.t 17], none, 0, 0⟩, ⟨.t 19, .e (.append 9 112 none), [.t 14, .t 18], none, 0, 0⟩, ⟨.l 5, .p (.mv), [.t 19], none, 0, 0⟩])))
 (.reg [⟨.t 20, .p (.bin .add), [.l 10, .c (.int .i64 1)], none, 0, 0⟩, ⟨.l 10, .p (.mv), [.t 20], none, 0, 0⟩])))))))
 (.seq (.reg [⟨.t 21, .p (.mv), [.l 5], none, 0, 0⟩, ⟨.l 4, .p (.mv), [.t 21], none, 0, 0⟩])
 .ret)))),
 [.tmp (.l 4)]⟩
theorem cf151_ok : compF TP Tryz.f151 = some cf151 := by kernel_rfl
def cf152 : CF := ⟨2, (.reg [⟨.t 4, .p (.mv), [.l 0], none, 0, 0⟩, ⟨.t 5, .p (.mv), [.l 0], none, 0, 0⟩, ⟨.t 6, .p (.nilc), [.t 5], none, 0, 0⟩, ⟨.t 7, .p (.fa 54), [.t 6], none, 0, 0⟩, ⟨.t 8, .p (.mv), [.l 1], none, 0, 0⟩, ⟨.t 9, .p (.slc (.arr 256 1) false true false), [.t 7, .t 8], none, 0, 0⟩, ⟨.t 10, .call 216, [.t 9], none, 0, 0⟩, ⟨.t 11, .p (.nilc), [.t 4], none, 0, 0⟩, ⟨.t 12, .p (.fa 319), [.t 11], none, 0, 0⟩, ⟨.no, .e (.store 1), [.t 12, .t 10], none, 0, 0⟩]),
 []⟩
theorem cf152_ok : compF TP Tryz.f152 = some cf152 := by kernel_rfl
def cf153 : CF := ⟨4, (.seq (.reg [⟨.l 5, .a (.box), [.l 1], none, 0, 0⟩, ⟨.l 6, .a (.box), [.l 2], none, 0, 0⟩])
 (.seq (.seq (.reg [⟨.t 8, .p (.fa 0), [.l 5], none, 0, 0⟩, ⟨.t 9, .r (.load false 1), [.t 8], none, 0, 0⟩, ⟨.t 10, .p (.bin .neq), [.t 9, .c (.int .i64 2)], none, 0, 0⟩, ⟨.t 11, .p (.mv), [.t 10], none, 0, 0⟩, ⟨.t 12, .p (.fa 0), [.l 6], (some (.t 11, false)), 0, 0⟩, ⟨.t 13, .r (.load false 1), [.t 12], (some (.t 11, false)), 0, 0⟩, ⟨.t 14, .p (.bin .neq), [.t 13, .c (.int .i64 2)], (some (.t 11, false)), 0, 0⟩, ⟨.l 15, .p (.pick), [.t 11, .c (.bool true), .t 14], none, 0, 0⟩])
 (.cond (.l 15) (.seq (.reg [⟨.t 16, .p (.mv), [.l 0], none, 0, 0⟩, ⟨.t 17, .call 125, [.t 16, .c (.str 6 113740957901154)], none, 0, 0⟩])
 .ret)
 .skip))
 (.reg [⟨.t 18, .p (.mv), [.l 0], none, 0, 0⟩, ⟨.t 19, .p (.fa 3), [.l 5], none, 0, 0⟩, ⟨.t 20, .r (.load false 1), [.t 19], none, 0, 0⟩, ⟨.t 21, .p (.fa 3), [.l 6], none, 0, 0⟩, ⟨.t 22, .r (.load false 1), [.t 21], none, 0, 0⟩, ⟨.t 23, .p (.mv), [.l 3], none, 0, 0⟩, ⟨.t 24, .call 50, [.t 18, .t 20, .t 22, .t 23], none, 0, 0⟩]))),
 []⟩
theorem cf153_ok : compF TP Tryz.f153 = some cf153 := by kernel_rfl
def cf158 : CF := ⟨1, (.seq (.reg [⟨.l 2, .a (.alloc [(.int .i64 0), (.int .i64 0), (.int .i64 0), (.str 0 0), (.str 0 0), (.int .i64 0), .nils, (.str 0 0), (.int .i64 0)]), [], none, 0, 0⟩])
 (.seq (.reg [⟨.t 3, .p (.mv), [.l 0], none, 0, 0⟩, ⟨.t 4, .p (.build [(.int .i64 0), (.int .i64 0), (.int .i64 0), (.str 0 0), (.str 0 0), (.int .i64 0), .nils, (.str 0 0), (.int .i64 0)] [(0, 1), (1, 1)]), [.c (.int .i64 1), .t 3], none, 0, 0⟩, ⟨.no, .e (.store 9), [.l 2, .t 4], none, 0, 0⟩])
 .ret)),
 [.cell (.l 2) true 9]⟩
theorem cf158_ok : compF TP Tryz.f158 = some cf158 := by kernel_rfl
def cf160 : CF := ⟨2, (.seq (.reg [⟨.l 3, .a (.box), [.l 1], none, 0, 0⟩, ⟨.l 4, .a (.alloc [(.int .i64 0), (.int .i64 0), (.int .i64 0), (.str 0 0), (.str 0 0), (.int .i64 0), .nils, (.str 0 0), (.int .i64 0)]), [], none, 0, 0⟩])
 (.seq (.seq (.reg [⟨.t 8, .p (.mv), [.l 0], none, 0, 0⟩, ⟨.t 9, .r (.load true 2), [.l 3], none, 0, 0⟩, ⟨.t 10, .call 202, [.t 8, .t 9], none, 0, 0⟩, ⟨.t 7, .p (.mv), [.t 10], none, 0, 0⟩, ⟨.t 11, .p (.ext 0), [.t 7], none, 0, 0⟩, ⟨.t 12, .p (.ext 1), [.t 7], none, 0, 0⟩, ⟨.l 5, .a (.alloc [(.int .i64 0), (.int .i64 0), (.int .i64 0), (.str 0 0), (.str 0 0), (.int .i64 0), .nils, (.str 0 0), (.int .i64 0)]), [], none, 0, 0⟩, ⟨.no, .e (.store 9), [.l 5, .t 11], none, 0, 0⟩, ⟨.l 6, .p (.mv), [.t 12], none, 0, 0⟩])
 (.seq (.reg [⟨.l 13, .p (.mv), [.l 6], none, 0, 0⟩])
 (.cond (.l 13) (.seq (.reg [⟨.t 14, .r (.load true 9), [.l 5], none, 0, 0⟩, ⟨.no, .e (.store 9), [.l 4, .t 14], none, 0, 0⟩])
 .ret)
 .skip)))
 (.seq (.reg [⟨.t 15, .p (.mv), [.l 0], none, 0, 0⟩, ⟨.t 16, .p (.mv), [.l 0], none, 0, 0⟩, ⟨.t 17, .r (.load true 2), [.l 3], none, 0, 0⟩, ⟨.t 18, .call 203, [.t 16, .t 17], none, 0, 0⟩, ⟨.t 19, .call 120, [.t 15, .t 18], none, 0, 0⟩, ⟨.no, .e (.store 9), [.l 4, .t 19], none, 0, 0⟩])
 .ret))),
 [.cell (.l 4) true 9]⟩
theorem cf160_ok : compF TP Tryz.f160 = some cf160 := by kernel_rfl
def cf166 : CF := ⟨1, (.seq (.reg [⟨.l 1, .a (.box), [.l 0], none, 0, 0⟩, ⟨.l 2, .p (.mv), [.c .nils], none, 0, 0⟩])
 (.seq (.reg [⟨.l 3, .a (.alloc [.nils]), [], none, 0, 0⟩])
 (.seq (.seq (.reg [⟨.t 8, .r (.load false 1), [.l 1], none, 0, 0⟩, ⟨.l 9, .call 233, [.t 8], none, 0, 0⟩])
 (.block 0 (.rangeF (.l 9) [.l 10] (.reg [⟨.l 4, .p (.mv), [.l 10], none, 0, 0⟩]) (.block 1 (.seq (.reg [⟨.t 12, .r (.load false 1), [.l 1], none, 0, 0⟩, ⟨.t 13, .p (.mv), [.l 4], none, 0, 0⟩, ⟨.t 14, .call 127, [.t 12, .t 13], none, 0, 0⟩, ⟨.t 11, .p (.mv), [.t 14], none, 0, 0⟩, ⟨.t 15, .p (.ext 0), [.t 11], none, 0, 0⟩, ⟨.t 16, .p (.ext 1), [.t 11], none, 0, 0⟩, ⟨.t 17, .p (.ext 2), [.t 11], none, 0, 0⟩, ⟨.l 5, .p (.mv), [.t 15], none, 0, 0⟩, ⟨.l 6, .p (.mv), [.t 16], none, 0, 0⟩, ⟨.t 7, .p (.mv), [.t 17], none, 0, 0⟩])
 (.seq (.reg [⟨.t 18, .p (.mv), [.l 5], none, 0, 0⟩, ⟨.l 19, .p (.bin .eql), [.t 18, .c (.int .i64 8)], none, 0, 0⟩])
 (.cond (.l 19) (.regD [⟨.t 20, .r (.load false 1), [.l 3], none, 0, 1⟩, ⟨.t 21, .p (.mv), [.l 6], none, 0, 0⟩, ⟨.t 22, .p (.ixsl 1), [.t 21, .c (.int .i64 0)], none, 0, 0⟩, ⟨.t 23, .r (.load false 1), [.t 22], none, 0, 0⟩, ⟨.t 24, .call 211, [.t 23], none, 0, 1⟩, ⟨.t 25, .a (.bslice [(.int .i64 0)] 1 1 [(0, 1)]), [.t 24], none, 1, 1⟩, ⟨.t 26, .e (.append 1 8 none), [.t 20, .t 25], none, 1, 2⟩, ⟨.no, .e (.store 1), [.l 3, .t 26], none, 2, 3⟩])
 .skip)))))))
 (.seq (.reg [⟨.t 27, .r (.load false 1), [.l 3], none, 0, 0⟩, ⟨.l 2, .p (.mv), [.t 27], none, 0, 0⟩])
 .ret)))),
 [.tmp (.l 2)]⟩
theorem cf166_ok : compF TP Tryz.f166 = some cf166 := by kernel_rfl
def cf168 : CF := ⟨1, (.seq (.reg [⟨.l 2, .p (.mv), [.c (.bool false)], none, 0, 0⟩])
 (.seq (.reg [⟨.t 12, .p (.mv), [.l 0], none, 0, 0⟩, ⟨.t 13, .p (.nilc), [.t 12], none, 0, 0⟩, ⟨.t 14, .p (.fa 5), [.t 13], none, 0, 0⟩, ⟨.t 15, .r (.load false 1), [.t 14], none, 0, 0⟩, ⟨.t 16, .p (.leng .sl), [.t 15], none, 0, 0⟩, ⟨.t 17, .p (.bin .sub), [.t 16, .c (.int .i64 1)], none, 0, 0⟩, ⟨.l 3, .p (.mv), [.t 17], none, 0, 0⟩])
 (.seq (.seq (.reg [⟨.t 18, .p (.mv), [.l 0], none, 0, 0⟩, ⟨.t 19, .p (.nilc), [.t 18], none, 0, 0⟩, ⟨.t 20, .p (.fa 0), [.t 19], none, 0, 0⟩, ⟨.t 21, .r (.load false 1), [.t 20], none, 0, 0⟩, ⟨.t 22, .call 47, [.t 21], none, 0, 0⟩, ⟨.t 23, .p (.un .not), [.t 22], none, 0, 0⟩, ⟨.t 24, .p (.mv), [.t 23], none, 0, 0⟩, ⟨.t 25, .p (.mv), [.l 0], (some (.t 24, false)), 0, 0⟩, ⟨.t 26, .p (.nilc), [.t 25], (some (.t 24, false)), 0, 0⟩, ⟨.t 27, .p (.fa 1), [.t 26], (some (.t 24, false)), 0, 0⟩, ⟨.t 28, .r (.load false 1), [.t 27], (some (.t 24, false)), 0, 0⟩, ⟨.t 29, .p (.bin .lss), [.t 28, .c (.int .i64 1)], (some (.t 24, false)), 0, 0⟩, ⟨.t 30, .p (.pick), [.t 24, .c (.bool true), .t 29], none, 0, 0⟩, ⟨.t 31, .p (.mv), [.t 30], none, 0, 0⟩, ⟨.t 32, .p (.mv), [.l 0], (some (.t 31, false)), 0, 0⟩, ⟨.t 33, .p (.nilc), [.t 32], (some (.t 31, false)), 0, 0⟩, ⟨.t 34, .p (.fa 1), [.t 33], (some (.t 31, false)), 0, 0⟩, ⟨.t 35, .r (.load false 1), [.t 34], (some (.t 31, false)), 0, 0⟩, ⟨.t 36, .p (.bin .gtr), [.t 35, .c (.int .i64 2147483647)], (some (.t 31, false)), 0, 0⟩, ⟨.t 37, .p (.pick), [.t 31, .c (.bool true), .t 36], none, 0, 0⟩, ⟨.t 38, .p (.mv), [.t 37], none, 0, 0⟩, ⟨.t 39, .p (.mv), [.l 3], (some (.t 38, false)), 0, 0⟩, ⟨.t 40, .p (.bin .lss), [.t 39, .c (.int .i64 0)], (some (.t 38, false)), 0, 0⟩, ⟨.t 41, .p (.pick), [.t 38, .c (.bool true), .t 40], none, 0, 0⟩, ⟨.t 42, .p (.mv), [.t 41], none, 0, 0⟩, ⟨.t 43, .p (.mv), [.l 3], (some (.t 42, false)), 0, 0⟩, ⟨.t 44, .p (.bin .geq), [.t 43, .c (.int .i64 524288)], (some (.t 42, false)), 0, 0⟩, ⟨.l 45, .p (.pick), [.t 42, .c (.bool true), .t 44], none, 0, 0⟩])
 (.cond (.l 45) (.seq (.reg [⟨.l 2, .p (.mv), [.c (.bool false)], none, 0, 0⟩])
 .ret)
 .skip))
 (.seq (.seq (.reg [⟨.t 46, .p (.mv), [.l 0], none, 0, 0⟩, ⟨.t 47, .p (.nilc), [.t 46], none, 0, 0⟩, ⟨.t 48, .p (.fa 2), [.t 47], none, 0, 0⟩, ⟨.t 49, .r (.load false 1), [.t 48], none, 0, 0⟩, ⟨.t 50, .p (.leng .sl), [.t 49], none, 0, 0⟩, ⟨.t 51, .p (.bin .gtr), [.t 50, .c (.int .i64 65535)], none, 0, 0⟩, ⟨.t 52, .p (.mv), [.t 51], none, 0, 0⟩, ⟨.t 53, .p (.mv), [.l 0], (some (.t 52, false)), 0, 0⟩, ⟨.t 54, .p (.nilc), [.t 53], (some (.t 52, false)), 0, 0⟩, ⟨.t 55, .p (.fa 3), [.t 54], (some (.t 52, false)), 0, 0⟩, ⟨.t 56, .r (.load false 1), [.t 55], (some (.t 52, false)), 0, 0⟩, ⟨.t 57, .p (.leng .sl), [.t 56], (some (.t 52, false)), 0, 0⟩, ⟨.t 58, .p (.bin .gtr), [.t 57, .c (.int .i64 200)], (some (.t 52, false)), 0, 0⟩, ⟨.t 59, .p (.pick), [.t 52, .c (.bool true), .t 58], none, 0, 0⟩, ⟨.t 60, .p (.mv), [.t 59], none, 0, 0⟩, ⟨.t 61, .p (.mv), [.l 0], (some (.t 60, false)), 0, 0⟩, ⟨.t 62, .p (.nilc), [.t 61], (some (.t 60, false)), 0, 0⟩, ⟨.t 63, .p (.fa 4), [.t 62], (some (.t 60, false)), 0, 0⟩, ⟨.t 64, .r (.load false 1), [.t 63], (some (.t 60, false)), 0, 0⟩, ⟨.t 65, .p (.leng .sl), [.t 64], (some (.t 60, false)), 0, 0⟩, ⟨.t 66, .p (.bin .gtr), [.t 65, .c (.int .i64 1000)], (some (.t 60, false)), 0, 0⟩, ⟨.l 67, .p (.pick), [.t 60, .c (.bool true), .t 66], none, 0, 0⟩])
 (.cond (.l 67) (.seq (.reg [⟨.l 2, .p (.mv), [.c (.bool false)], none, 0, 0⟩])
 .ret)
 .skip))
 (.seq (.seq (.reg [⟨.t 68, .p (.mv), [.l 0], none, 0, 0⟩, ⟨.t 69, .p (.nilc), [.t 68], none, 0, 0⟩, ⟨.t 70, .p (.fa 2), [.t 69], none, 0, 0⟩, ⟨.l 71, .r (.load false 1), [.t 70], none, 0, 0⟩, ⟨.l 72, .p (.leng .sl), [.l 71], none, 0, 0⟩, ⟨.l 73, .p (.mv), [.c (.int .i64 0)], none, 0, 0⟩])
 (.block 0 (.loop (.seq (.reg [⟨.l 74, .p (.bin .lss), [.l 73, .l 72], none, 0, 0⟩])
 (.seq (.cond (.l 74) .skip
 (.exit 0))
 (.seq (.block 1 (.seq (.reg [⟨.t 75, .p (.ixsl 9), [.l 71, .l 73], none, 0, 0⟩, ⟨.t 76, .r (.load true 9), [.t 75], none, 0, 0⟩, ⟨.l 5, .a (.alloc [(.int .i64 0), (.int .i64 0), (.int .i64 0), (.str 0 0), (.str 0 0), (.int .i64 0), .nils, (.str 0 0), (.int .i64 0)]), [], none, 0, 0⟩, ⟨.no, .e (.store 9), [.l 5, .t 76], none, 0, 0⟩])
 (.seq (.reg [⟨.t 77, .r (.load true 9), [.l 5], none, 0, 0⟩, ⟨.t 78, .call 29, [.t 77], none, 0, 0⟩, ⟨.l 79, .p (.un .not), [.t 78], none, 0, 0⟩])
 (.cond (.l 79) (.seq (.reg [⟨.l 2, .p (.mv), [.c (.bool false)], none, 0, 0⟩])
 .ret)
 .skip))))
 (.reg [⟨.t 80, .p (.bin .add), [.l 73, .c (.int .i64 1)], none, 0, 0⟩, ⟨.l 73, .p (.mv), [.t 80], none, 0, 0⟩])))))))
 (.seq (.reg [⟨.t 81, .a (.mkm false), [], none, 0, 0⟩, ⟨.l 6, .p (.mv), [.t 81], none, 0, 0⟩])
 (.seq (.seq (.reg [⟨.t 82, .p (.mv), [.l 0], none, 0, 0⟩, ⟨.t 83, .p (.nilc), [.t 82], none, 0, 0⟩, ⟨.t 84, .p (.fa 3), [.t 83], none, 0, 0⟩, ⟨.l 85, .r (.load false 1), [.t 84], none, 0, 0⟩, ⟨.l 86, .p (.leng .sl), [.l 85], none, 0, 0⟩, ⟨.l 87, .p (.mv), [.c (.int .i64 0)], none, 0, 0⟩])
 (.block 2 (.loop (.seq (.reg [⟨.l 88, .p (.bin .lss), [.l 87, .l 86], none, 0, 0⟩])
 (.seq (.cond (.l 88) .skip
 (.exit 2))
 (.seq (.block 3 (.seq (.reg [⟨.t 89, .p (.ixsl 4), [.l 85, .l 87], none, 0, 0⟩, ⟨.t 90, .r (.load true 4), [.t 89], none, 0, 0⟩, ⟨.l 8, .a (.alloc [(.str 0 0), (.int .i64 0), (.bool false), (.int .i64 0)]), [], none, 0, 0⟩, ⟨.no, .e (.store 4), [.l 8, .t 90], none, 0, 0⟩])
 (.seq (.reg [⟨.t 91, .p (.fa 0), [.l 8], none, 0, 0⟩, ⟨.t 92, .r (.load false 1), [.t 91], none, 0, 0⟩, ⟨.t 93, .p (.fa 1), [.l 8], none, 0, 0⟩, ⟨.t 94, .r (.load false 1), [.t 93], none, 0, 0⟩, ⟨.t 95, .p (.build [(.str 0 0), (.int .i64 0)] [(0, 1), (1, 1)]), [.t 92, .t 94], none, 0, 0⟩, ⟨.l 9, .a (.alloc [(.str 0 0), (.int .i64 0)]), [], none, 0, 0⟩, ⟨.no, .e (.store 2), [.l 9, .t 95], none, 0, 0⟩])
 (.seq (.seq (.reg [⟨.t 96, .p (.fa 0), [.l 8], none, 0, 0⟩, ⟨.t 97, .r (.load false 1), [.t 96], none, 0, 0⟩, ⟨.t 98, .call 47, [.t 97], none, 0, 0⟩, ⟨.t 99, .p (.un .not), [.t 98], none, 0, 0⟩, ⟨.t 100, .p (.mv), [.t 99], none, 0, 0⟩, ⟨.t 101, .p (.fa 1), [.l 8], (some (.t 100, false)), 0, 0⟩, ⟨.t 102, .r (.load false 1), [.t 101], (some (.t 100, false)), 0, 0⟩, ⟨.t 103, .call 234, [.t 102, .c (.int .i64 0), .c (.int .i64 16)], (some (.t 100, false)), 0, 0⟩, ⟨.t 104, .p (.un .not), [.t 103], (some (.t 100, false)), 0, 0⟩, ⟨.t 105, .p (.pick), [.t 100, .c (.bool true), .t 104], none, 0, 0⟩, ⟨.t 106, .p (.mv), [.t 105], none, 0, 0⟩, ⟨.t 107, .p (.fa 3), [.l 8], (some (.t 106, false)), 0, 0⟩, ⟨.t 108, .r (.load false 1), [.t 107], (some (.t 106, false)), 0, 0⟩, ⟨.t 109, .p (.mv), [.l 3], (some (.t 106, false)), 0, 0⟩, ⟨.t 110, .call 234, [.t 108, .c (.int .i64 0), .t 109], (some (.t 106, false)), 0, 0⟩, ⟨.t 111, .p (.un .not), [.t 110], (some (.t 106, false)), 0, 0⟩, ⟨.t 112, .p (.pick), [.t 106, .c (.bool true), .t 111], none, 0, 0⟩, ⟨.t 113, .p (.mv), [.t 112], none, 0, 0⟩, ⟨.t 114, .p (.mv), [.l 6], (some (.t 113, false)), 0, 0⟩, ⟨.t 115, .r (.load true 2), [.l 9], (some (.t 113, false)), 0, 0⟩, ⟨.t 116, .r (.lookup (.agg [.s, .i]) false (.bool false)), [.t 114, .t 115], (some (.t 113, false)), 0, 0⟩, ⟨.l 117, .p (.pick), [.t 113, .c (.bool true), .t 116], none, 0, 0⟩])
 (.cond (.l 117) (.seq (.reg [⟨.l 2, .p (.mv), [.c (.bool false)], none, 0, 0⟩])
 .ret)
 .skip))
 (.reg [⟨.t 118, .p (.mv), [.l 6], none, 0, 0⟩, ⟨.t 119, .r (.load true 2), [.l 9], none, 0, 0⟩, ⟨.no, .e (.mapup (.agg [.s, .i])), [.t 118, .t 119, .c (.bool true)], none, 0, 0⟩])))))
 (.reg [⟨.t 120, .p (.bin .add), [.l 87, .c (.int .i64 1)], none, 0, 0⟩, ⟨.l 87, .p (.mv), [.t 120], none, 0, 0⟩])))))))
 (.seq (.seq (.reg [⟨.t 121, .p (.mv), [.l 0], none, 0, 0⟩, ⟨.t 122, .p (.nilc), [.t 121], none, 0, 0⟩, ⟨.t 123, .p (.fa 4), [.t 122], none, 0, 0⟩, ⟨.l 124, .r (.load false 1), [.t 123], none, 0, 0⟩, ⟨.l 125, .p (.leng .sl), [.l 124], none, 0, 0⟩, ⟨.l 126, .p (.mv), [.c (.int .i64 0)], none, 0, 0⟩])
 (.block 4 (.loop (.seq (.reg [⟨.l 127, .p (.bin .lss), [.l 126, .l 125], none, 0, 0⟩])
 (.seq (.cond (.l 127) .skip
 (.exit 4))
 (.seq (.block 5 (.seq (.reg [⟨.t 128, .p (.ixsl 3), [.l 124, .l 126], none, 0, 0⟩, ⟨.t 129, .r (.load true 3), [.t 128], none, 0, 0⟩, ⟨.l 11, .a (.alloc [(.int .i64 0), (.int .i64 0), (.int .i64 0)]), [], none, 0, 0⟩, ⟨.no, .e (.store 3), [.l 11, .t 129], none, 0, 0⟩])
 (.seq (.reg [⟨.t 130, .p (.fa 0), [.l 11], none, 0, 0⟩, ⟨.t 131, .r (.load false 1), [.t 130], none, 0, 0⟩, ⟨.t 132, .call 234, [.t 131, .c (.int .i64 0), .c (.int .i64 16)], none, 0, 0⟩, ⟨.t 133, .p (.un .not), [.t 132], none, 0, 0⟩, ⟨.t 134, .p (.mv), [.t 133], none, 0, 0⟩, ⟨.t 135, .p (.fa 1), [.l 11], (some (.t 134, false)), 0, 0⟩, ⟨.t 136, .r (.load false 1), [.t 135], (some (.t 134, false)), 0, 0⟩, ⟨.t 137, .call 234, [.t 136, .c (.int .i64 0), .c (.int .i64 200)], (some (.t 134, false)), 0, 0⟩, ⟨.t 138, .p (.un .not), [.t 137], (some (.t 134, false)), 0, 0⟩, ⟨.t 139, .p (.pick), [.t 134, .c (.bool true), .t 138], none, 0, 0⟩, ⟨.t 140, .p (.mv), [.t 139], none, 0, 0⟩, ⟨.t 141, .p (.fa 2), [.l 11], (some (.t 140, false)), 0, 0⟩, ⟨.t 142, .r (.load false 1), [.t 141], (some (.t 140, false)), 0, 0⟩, ⟨.t 143, .p (.mv), [.l 3], (some (.t 140, false)), 0, 0⟩, ⟨.t 144, .call 234, [.t 142, .c (.int .i64 0), .t 143], (some (.t 140, false)), 0, 0⟩, ⟨.t 145, .p (.un .not), [.t 144], (some (.t 140, false)), 0, 0⟩, ⟨.l 146, .p (.pick), [.t 140, .c (.bool true), .t 145], none, 0, 0⟩])
 (.cond (.l 146) (.seq (.reg [⟨.l 2, .p (.mv), [.c (.bool false)], none, 0, 0⟩])
 .ret)
 .skip))))
 (.reg [⟨.t 147, .p (.bin .add), [.l 126, .c (.int .i64 1)], none, 0, 0⟩, ⟨.l 126, .p (.mv), [.t 147], none, 0, 0⟩])))))))
 (.seq (.reg [⟨.l 2, .p (.mv), [.c (.bool true)], none, 0, 0⟩])
 .ret))))))))),
 [.tmp (.l 2)]⟩
theorem cf168_ok : compF TP Tryz.f168 = some cf168 := by kernel_rfl
def cf169 : CF := ⟨1, (.seq (.reg [⟨.l 2, .a (.alloc [(.int .i64 0), (.int .i64 0), (.int .i64 0)]), [], none, 0, 0⟩, ⟨.l 3, .p (.mv), [.c (.bool false)], none, 0, 0⟩])
 (.seq (.seq (.reg [⟨.t 4, .p (.mv), [.l 0], none, 0, 0⟩, ⟨.t 5, .p (.bin .lss), [.t 4, .c (.int .i64 1)], none, 0, 0⟩, ⟨.t 6, .p (.mv), [.t 5], none, 0, 0⟩, ⟨.t 7, .p (.mv), [.l 0], (some (.t 6, false)), 0, 0⟩, ⟨.t 8, .p (.bin .gtr), [.t 7, .c (.int .i64 40)], (some (.t 6, false)), 0, 0⟩, ⟨.l 9, .p (.pick), [.t 6, .c (.bool true), .t 8], none, 0, 0⟩])
 (.cond (.l 9) (.seq (.reg [⟨.t 10, .p (.build [(.int .i64 0), (.int .i64 0), (.int .i64 0)] []), [], none, 0, 0⟩, ⟨.no, .e (.store 3), [.l 2, .t 10], none, 0, 0⟩, ⟨.l 3, .p (.mv), [.c (.bool false)], none, 0, 0⟩])
 .ret)
 .skip))
 (.seq (.reg [⟨.t 11, .p (.mv), [.l 0], none, 0, 0⟩, ⟨.t 12, .p (.ixarrp 41 3), [.c (.ptr 0 0), .t 11], none, 0, 0⟩, ⟨.t 13, .r (.load true 3), [.t 12], none, 0, 0⟩, ⟨.no, .e (.store 3), [.l 2, .t 13], none, 0, 0⟩, ⟨.l 3, .p (.mv), [.c (.bool true)], none, 0, 0⟩])
 .ret))),
 [.cell (.l 2) true 3, .tmp (.l 3)]⟩
theorem cf169_ok : compF TP Tryz.f169 = some cf169 := by kernel_rfl
def cf170 : CF := ⟨3, (.seq (.reg [⟨.l 5, .a (.box), [.l 2], none, 0, 0⟩, ⟨.l 6, .p (.mv), [.c (.bool false)], none, 0, 0⟩])
 (.seq (.reg [⟨.t 10, .p (.mkf (.func 235) 0), [.l 5], none, 0, 0⟩, ⟨.l 7, .p (.mv), [.t 10], none, 0, 0⟩])
 (.seq (.seq (.reg [⟨.t 11, .p (.mv), [.l 7], none, 0, 0⟩, ⟨.l 12, .callv, [.t 11, .c (.int .i64 1)], none, 0, 0⟩])
 (.cond (.l 12) (.seq (.reg [⟨.t 13, .p (.mv), [.l 1], none, 0, 0⟩, ⟨.t 14, .p (.nilc), [.t 13], none, 0, 0⟩, ⟨.t 15, .p (.fa 1), [.t 14], none, 0, 0⟩, ⟨.t 16, .p (.fa 0), [.t 15], none, 0, 0⟩, ⟨.t 17, .r (.load false 1), [.t 16], none, 0, 0⟩, ⟨.t 18, .p (.bin .eql), [.t 17, .c (.int .i64 3)], none, 0, 0⟩, ⟨.t 19, .p (.mv), [.t 18], none, 0, 0⟩, ⟨.t 20, .p (.mv), [.l 0], (some (.t 19, false)), 0, 0⟩, ⟨.t 21, .p (.mv), [.l 1], (some (.t 19, false)), 0, 0⟩, ⟨.t 22, .p (.nilc), [.t 21], (some (.t 19, false)), 0, 0⟩, ⟨.t 23, .p (.fa 1), [.t 22], (some (.t 19, false)), 0, 0⟩, ⟨.t 24, .r (.load true 2), [.t 23], (some (.t 19, false)), 0, 0⟩, ⟨.t 25, .call 236, [.t 20, .t 24], (some (.t 19, false)), 0, 0⟩, ⟨.t 26, .p (.un .not), [.t 25], (some (.t 19, false)), 0, 0⟩, ⟨.l 27, .p (.pick), [.t 19, .c (.bool true), .t 26], none, 0, 0⟩])
 (.cond (.l 27) (.seq (.reg [⟨.l 6, .p (.mv), [.c (.bool false)], none, 0, 0⟩])
 .ret)
 .skip))
 (.seq (.reg [⟨.t 28, .p (.mv), [.l 1], none, 0, 0⟩, ⟨.t 29, .p (.nilc), [.t 28], none, 0, 0⟩, ⟨.t 30, .p (.fa 1), [.t 29], none, 0, 0⟩, ⟨.t 31, .r (.load true 2), [.t 30], none, 0, 0⟩, ⟨.t 32, .p (.build [(.int .i64 0), (.int .i64 0)] []), [], none, 0, 0⟩, ⟨.l 33, .r (.eq (.agg [.i, .i]) true), [.t 31, .t 32], none, 0, 0⟩])
 (.cond (.l 33) (.seq (.reg [⟨.l 6, .p (.mv), [.c (.bool false)], none, 0, 0⟩])
 .ret)
 .skip))))
 (.seq (.seq (.reg [⟨.t 34, .p (.mv), [.l 1], none, 0, 0⟩, ⟨.t 35, .p (.nilc), [.t 34], none, 0, 0⟩, ⟨.t 36, .p (.fa 3), [.t 35], none, 0, 0⟩, ⟨.l 37, .r (.load false 1), [.t 36], none, 0, 0⟩, ⟨.l 38, .p (.leng .sl), [.l 37], none, 0, 0⟩, ⟨.l 39, .p (.mv), [.c (.int .i64 0)], none, 0, 0⟩])
 (.block 0 (.loop (.seq (.reg [⟨.l 40, .p (.bin .lss), [.l 39, .l 38], none, 0, 0⟩])
 (.seq (.cond (.l 40) .skip
 (.exit 0))
 (.seq (.block 1 (.seq (.reg [⟨.t 41, .p (.ixsl 2), [.l 37, .l 39], none, 0, 0⟩, ⟨.t 42, .r (.load true 2), [.t 41], none, 0, 0⟩, ⟨.l 9, .a (.alloc [(.int .i64 0), (.int .i64 0)]), [], none, 0, 0⟩, ⟨.no, .e (.store 2), [.l 9, .t 42], none, 0, 0⟩])
 (.seq (.reg [⟨.t 43, .p (.mv), [.l 0], none, 0, 0⟩, ⟨.t 44, .r (.load true 2), [.l 9], none, 0, 0⟩, ⟨.t 45, .call 236, [.t 43, .t 44], none, 0, 0⟩, ⟨.l 46, .p (.un .not), [.t 45], none, 0, 0⟩])
 (.cond (.l 46) (.seq (.reg [⟨.l 6, .p (.mv), [.c (.bool false)], none, 0, 0⟩])
 .ret)
 .skip))))
 (.reg [⟨.t 47, .p (.bin .add), [.l 39, .c (.int .i64 1)], none, 0, 0⟩, ⟨.l 39, .p (.mv), [.t 47], none, 0, 0⟩])))))))
 (.seq (.block 2 (.seq (.seq (.regD [⟨.t 49, .p (.mv), [.l 1], none, 0, 0⟩, ⟨.t 50, .p (.nilc), [.t 49], none, 0, 0⟩, ⟨.t 51, .p (.fa 3), [.t 50], none, 0, 0⟩, ⟨.t 52, .r (.load false 1), [.t 51], none, 0, 0⟩, ⟨.t 53, .p (.leng .sl), [.t 52], none, 0, 0⟩, ⟨.t 54, .p (.fa 1), [.l 5], none, 0, 0⟩, ⟨.t 55, .r (.load false 1), [.t 54], none, 0, 0⟩, ⟨.t 56, .p (.fa 2), [.l 5], none, 0, 0⟩, ⟨.t 57, .r (.load false 1), [.t 56], none, 0, 0⟩, ⟨.t 58, .call 234, [.t 53, .t 55, .t 57], none, 0, 1⟩, ⟨.t 59, .p (.un .not), [.t 58], none, 1, 1⟩, ⟨.l 48, .p (.mv), [.t 59], none, 1, 1⟩])
 (.cond (.l 48) .skip
 (.reg [⟨.t 60, .p (.mv), [.l 1], none, 0, 0⟩, ⟨.t 61, .p (.nilc), [.t 60], none, 0, 0⟩, ⟨.t 62, .p (.fa 6), [.t 61], none, 0, 0⟩, ⟨.t 63, .r (.load false 1), [.t 62], none, 0, 0⟩, ⟨.t 64, .call 234, [.t 63, .c (.int .i64 0), .c (.int .i64 256)], none, 0, 0⟩, ⟨.t 65, .p (.un .not), [.t 64], none, 0, 0⟩, ⟨.l 48, .p (.mv), [.t 65], none, 0, 0⟩])))
 (.cond (.l 48) (.seq (.reg [⟨.l 6, .p (.mv), [.c (.bool false)], none, 0, 0⟩])
 .ret)
 (.seq (.seq (.reg [⟨.t 67, .p (.mv), [.l 7], none, 0, 0⟩, ⟨.t 68, .callv, [.t 67, .c (.int .i64 4)], none, 0, 0⟩, ⟨.t 69, .p (.un .not), [.t 68], none, 0, 0⟩, ⟨.t 70, .p (.mv), [.t 69], none, 0, 0⟩, ⟨.t 71, .p (.mv), [.l 1], (some (.t 70, true)), 0, 0⟩, ⟨.t 72, .p (.nilc), [.t 71], (some (.t 70, true)), 0, 0⟩, ⟨.t 73, .p (.fa 5), [.t 72], (some (.t 70, true)), 0, 0⟩, ⟨.t 74, .r (.load false 1), [.t 73], (some (.t 70, true)), 0, 0⟩, ⟨.t 75, .p (.bin .neq), [.t 74, .c (.int .i64 0)], (some (.t 70, true)), 0, 0⟩, ⟨.t 76, .p (.pick), [.t 70, .t 75, .c (.bool false)], none, 0, 0⟩, ⟨.l 66, .p (.mv), [.t 76], none, 0, 0⟩])
 (.cond (.l 66) .skip
 (.seq (.reg [⟨.t 77, .p (.mv), [.l 7], none, 0, 0⟩, ⟨.t 78, .callv, [.t 77, .c (.int .i64 8)], none, 0, 0⟩, ⟨.t 79, .p (.un .not), [.t 78], none, 0, 0⟩, ⟨.t 80, .p (.mv), [.t 79], none, 0, 0⟩, ⟨.t 81, .p (.mv), [.l 1], (some (.t 80, true)), 0, 0⟩, ⟨.t 82, .p (.nilc), [.t 81], (some (.t 80, true)), 0, 0⟩, ⟨.t 83, .p (.fa 7), [.t 82], (some (.t 80, true)), 0, 0⟩, ⟨.t 84, .r (.load false 1), [.t 83], (some (.t 80, true)), 0, 0⟩, ⟨.t 85, .p (.bin .neq), [.t 84, .c (.str 0 0)], (some (.t 80, true)), 0, 0⟩, ⟨.t 86, .p (.pick), [.t 80, .t 85, .c (.bool false)], none, 0, 0⟩, ⟨.l 66, .p (.mv), [.t 86], none, 0, 0⟩])
 (.cond (.l 66) .skip
 (.seq (.reg [⟨.t 87, .p (.mv), [.l 7], none, 0, 0⟩, ⟨.t 88, .callv, [.t 87, .c (.int .i64 64)], none, 0, 0⟩, ⟨.t 89, .p (.un .not), [.t 88], none, 0, 0⟩, ⟨.t 90, .p (.mv), [.t 89], none, 0, 0⟩, ⟨.t 91, .p (.mv), [.l 1], (some (.t 90, true)), 0, 0⟩, ⟨.t 92, .p (.nilc), [.t 91], (some (.t 90, true)), 0, 0⟩, ⟨.t 93, .p (.fa 4), [.t 92], (some (.t 90, true)), 0, 0⟩, ⟨.t 94, .r (.load false 1), [.t 93], (some (.t 90, true)), 0, 0⟩, ⟨.t 95, .p (.bin .neq), [.t 94, .c (.int .i64 0)], (some (.t 90, true)), 0, 0⟩, ⟨.t 96, .p (.pick), [.t 90, .t 95, .c (.bool false)], none, 0, 0⟩, ⟨.l 66, .p (.mv), [.t 96], none, 0, 0⟩])
 (.cond (.l 66) .skip
 (.reg [⟨.t 97, .p (.mv), [.l 7], none, 0, 0⟩, ⟨.t 98, .callv, [.t 97, .c (.int .i64 128)], none, 0, 0⟩, ⟨.t 99, .p (.un .not), [.t 98], none, 0, 0⟩, ⟨.t 100, .p (.mv), [.t 99], none, 0, 0⟩, ⟨.t 101, .p (.mv), [.l 1], (some (.t 100, true)), 0, 0⟩, ⟨.t 102, .p (.nilc), [.t 101], (some (.t 100, true)), 0, 0⟩, ⟨.t 103, .p (.fa 6), [.t 102], (some (.t 100, true)), 0, 0⟩, ⟨.t 104, .r (.load false 1), [.t 103], (some (.t 100, true)), 0, 0⟩, ⟨.t 105, .p (.bin .neq), [.t 104, .c (.int .i64 0)], (some (.t 100, true)), 0, 0⟩, ⟨.t 106, .p (.pick), [.t 100, .t 105, .c (.bool false)], none, 0, 0⟩, ⟨.l 66, .p (.mv), [.t 106], none, 0, 0⟩])))))))
 (.cond (.l 66) (.seq (.reg [⟨.l 6, .p (.mv), [.c (.bool false)], none, 0, 0⟩])
 .ret)
 (.seq (.seq (.reg [⟨.t 108, .p (.mv), [.l 7], none, 0, 0⟩, ⟨.t 109, .callv, [.t 108, .c (.int .i64 16)], none, 0, 0⟩, ⟨.t 110, .p (.un .not), [.t 109], none, 0, 0⟩, ⟨.t 111, .p (.mv), [.t 110], none, 0, 0⟩, ⟨.t 112, .p (.mv), [.l 1], (some (.t 111, true)), 0, 0⟩, ⟨.t 113, .p (.nilc), [.t 112], (some (.t 111, true)), 0, 0⟩, ⟨.t 114, .p (.fa 8), [.t 113], (some (.t 111, true)), 0, 0⟩, ⟨.t 115, .r (.load false 1), [.t 114], (some (.t 111, true)), 0, 0⟩, ⟨.t 116, .p (.leng .sl), [.t 115], (some (.t 111, true)), 0, 0⟩, ⟨.t 117, .p (.bin .gtr), [.t 116, .c (.int .i64 0)], (some (.t 111, true)), 0, 0⟩, ⟨.t 118, .p (.pick), [.t 111, .t 117, .c (.bool false)], none, 0, 0⟩, ⟨.l 107, .p (.mv), [.t 118], none, 0, 0⟩])
 (.cond (.l 107) .skip
 (.reg [⟨.t 119, .p (.mv), [.l 7], none, 0, 0⟩, ⟨.t 120, .callv, [.t 119, .c (.int .i64 32)], none, 0, 0⟩, ⟨.t 121, .p (.un .not), [.t 120], none, 0, 0⟩, ⟨.t 122, .p (.mv), [.t 121], none, 0, 0⟩, ⟨.t 123, .p (.mv), [.l 1], (some (.t 122, true)), 0, 0⟩, ⟨.t 124, .p (.nilc), [.t 123], (some (.t 122, true)), 0, 0⟩, ⟨.t 125, .p (.fa 9), [.t 124], (some (.t 122, true)), 0, 0⟩, ⟨.t 126, .r (.load false 1), [.t 125], (some (.t 122, true)), 0, 0⟩, ⟨.t 127, .p (.leng .sl), [.t 126], (some (.t 122, true)), 0, 0⟩, ⟨.t 128, .p (.bin .gtr), [.t 127, .c (.int .i64 0)], (some (.t 122, true)), 0, 0⟩, ⟨.t 129, .p (.pick), [.t 122, .t 128, .c (.bool false)], none, 0, 0⟩, ⟨.l 107, .p (.mv), [.t 129], none, 0, 0⟩])))
 (.cond (.l 107) (.seq (.reg [⟨.l 6, .p (.mv), [.c (.bool false)], none, 0, 0⟩])
 .ret)
 .skip)))))))
 (.seq (.reg [⟨.l 6, .p (.mv), [.c (.bool true)], none, 0, 0⟩])
 .ret)))))),
 [.tmp (.l 6)]⟩
theorem cf170_ok : compF TP Tryz.f170 = some cf170 := by kernel_rfl
def cf171 : CF := ⟨2, (.seq (.reg [⟨.l 4, .p (.mv), [.c (.bool false)], none, 0, 0⟩])
 (.seq (.seq (.reg [⟨.t 5, .p (.mv), [.l 1], none, 0, 0⟩, ⟨.t 6, .p (.nilc), [.t 5], none, 0, 0⟩, ⟨.t 7, .p (.fa 0), [.t 6], none, 0, 0⟩, ⟨.l 8, .r (.load false 1), [.t 7], none, 0, 0⟩])
 (.block 0 (.seq (.reg [⟨.t 10, .p (.bin .eql), [.l 8, .c (.int .i64 4)], none, 0, 0⟩, ⟨.l 9, .p (.mv), [.t 10], none, 0, 0⟩])
 (.cond (.l 9) (.seq (.regD [⟨.t 11, .p (.mv), [.l 1], none, 0, 0⟩, ⟨.t 12, .p (.nilc), [.t 11], none, 0, 0⟩, ⟨.t 13, .p (.fa 5), [.t 12], none, 0, 0⟩, ⟨.t 14, .r (.load false 1), [.t 13], none, 0, 0⟩, ⟨.t 15, .p (.mv), [.l 0], none, 0, 0⟩, ⟨.t 16, .p (.nilc), [.t 15], none, 0, 0⟩, ⟨.t 17, .p (.fa 4), [.t 16], none, 0, 0⟩, ⟨.t 18, .r (.load false 1), [.t 17], none, 0, 0⟩, ⟨.t 19, .p (.leng .sl), [.t 18], none, 0, 0⟩, ⟨.t 20, .p (.bin .sub), [.t 19, .c (.int .i64 1)], none, 0, 0⟩, ⟨.t 21, .call 234, [.t 14, .c (.int .i64 0), .t 20], none, 0, 1⟩, ⟨.t 22, .p (.mv), [.t 21], none, 1, 1⟩, ⟨.t 23, .p (.mv), [.l 1], (some (.t 22, true)), 1, 1⟩, ⟨.t 24, .p (.nilc), [.t 23], (some (.t 22, true)), 1, 1⟩, ⟨.t 25, .p (.fa 3), [.t 24], (some (.t 22, true)), 1, 1⟩, ⟨.t 26, .r (.load false 1), [.t 25], (some (.t 22, true)), 1, 1⟩, ⟨.t 27, .p (.leng .sl), [.t 26], (some (.t 22, true)), 1, 1⟩, ⟨.t 28, .p (.mv), [.l 0], (some (.t 22, true)), 1, 1⟩, ⟨.t 29, .p (.nilc), [.t 28], (some (.t 22, true)), 1, 1⟩, ⟨.t 30, .p (.fa 4), [.t 29], (some (.t 22, true)), 1, 1⟩, ⟨.t 31, .r (.load false 1), [.t 30], (some (.t 22, true)), 1, 1⟩, ⟨.t 32, .p (.mv), [.l 1], (some (.t 22, true)), 1, 1⟩, ⟨.t 33, .p (.nilc), [.t 32], (some (.t 22, true)), 1, 1⟩, ⟨.t 34, .p (.fa 5), [.t 33], (some (.t 22, true)), 1, 1⟩, ⟨.t 35, .r (.load false 1), [.t 34], (some (.t 22, true)), 1, 1⟩, ⟨.t 36, .p (.ixsl 3), [.t 31, .t 35], (some (.t 22, true)), 1, 1⟩, ⟨.t 37, .p (.fa 1), [.t 36], (some (.t 22, true)), 1, 1⟩, ⟨.t 38, .r (.load false 1), [.t 37], (some (.t 22, true)), 1, 1⟩, ⟨.t 39, .p (.bin .eql), [.t 27, .t 38], (some (.t 22, true)), 1, 1⟩, ⟨.t 40, .p (.pick), [.t 22, .t 39, .c (.bool false)], none, 1, 1⟩, ⟨.l 4, .p (.mv), [.t 40], none, 1, 1⟩])
 .ret)
 (.seq (.reg [⟨.t 42, .p (.bin .eql), [.l 8, .c (.int .i64 5)], none, 0, 0⟩, ⟨.l 41, .p (.mv), [.t 42], none, 0, 0⟩])
 (.cond (.l 41) (.seq (.reg [⟨.t 43, .p (.mv), [.l 1], none, 0, 0⟩, ⟨.t 44, .p (.nilc), [.t 43], none, 0, 0⟩, ⟨.t 45, .p (.fa 5), [.t 44], none, 0, 0⟩, ⟨.t 46, .r (.load false 1), [.t 45], none, 0, 0⟩, ⟨.t 47, .call 234, [.t 46, .c (.int .i64 0), .c (.int .i64 254)], none, 0, 0⟩, ⟨.l 4, .p (.mv), [.t 47], none, 0, 0⟩])
 .ret)
 (.seq (.reg [⟨.t 49, .p (.bin .eql), [.l 8, .c (.int .i64 9)], none, 0, 0⟩, ⟨.l 48, .p (.mv), [.t 49], none, 0, 0⟩])
 (.cond (.l 48) (.seq (.reg [⟨.t 50, .p (.mv), [.l 1], none, 0, 0⟩, ⟨.t 51, .p (.nilc), [.t 50], none, 0, 0⟩, ⟨.t 52, .p (.fa 5), [.t 51], none, 0, 0⟩, ⟨.t 53, .r (.load false 1), [.t 52], none, 0, 0⟩, ⟨.t 54, .call 234, [.t 53, .c (.int .i64 0), .c (.int .i64 255)], none, 0, 0⟩, ⟨.l 4, .p (.mv), [.t 54], none, 0, 0⟩])
 .ret)
 (.seq (.seq (.reg [⟨.t 56, .p (.bin .eql), [.l 8, .c (.int .i64 16)], none, 0, 0⟩, ⟨.l 55, .p (.mv), [.t 56], none, 0, 0⟩])
 (.cond (.l 55) .skip
 (.reg [⟨.t 57, .p (.bin .eql), [.l 8, .c (.int .i64 17)], none, 0, 0⟩, ⟨.l 55, .p (.mv), [.t 57], none, 0, 0⟩])))
 (.cond (.l 55) (.seq (.regD [⟨.t 58, .p (.mv), [.l 1], none, 0, 0⟩, ⟨.t 59, .p (.nilc), [.t 58], none, 0, 0⟩, ⟨.t 60, .p (.fa 5), [.t 59], none, 0, 0⟩, ⟨.t 61, .r (.load false 1), [.t 60], none, 0, 0⟩, ⟨.t 62, .p (.mv), [.l 0], none, 0, 0⟩, ⟨.t 63, .p (.nilc), [.t 62], none, 0, 0⟩, ⟨.t 64, .p (.fa 3), [.t 63], none, 0, 0⟩, ⟨.t 65, .r (.load false 1), [.t 64], none, 0, 0⟩, ⟨.t 66, .p (.leng .sl), [.t 65], none, 0, 0⟩, ⟨.t 67, .p (.bin .sub), [.t 66, .c (.int .i64 1)], none, 0, 0⟩, ⟨.t 68, .call 234, [.t 61, .c (.int .i64 0), .t 67], none, 0, 1⟩, ⟨.l 4, .p (.mv), [.t 68], none, 1, 1⟩])
 .ret)
 (.seq (.seq (.reg [⟨.t 70, .p (.bin .eql), [.l 8, .c (.int .i64 15)], none, 0, 0⟩, ⟨.l 69, .p (.mv), [.t 70], none, 0, 0⟩])
 (.cond (.l 69) .skip
 (.seq (.reg [⟨.t 71, .p (.bin .eql), [.l 8, .c (.int .i64 18)], none, 0, 0⟩, ⟨.l 69, .p (.mv), [.t 71], none, 0, 0⟩])
 (.cond (.l 69) .skip
 (.seq (.reg [⟨.t 72, .p (.bin .eql), [.l 8, .c (.int .i64 19)], none, 0, 0⟩, ⟨.l 69, .p (.mv), [.t 72], none, 0, 0⟩])
 (.cond (.l 69) .skip
 (.seq (.reg [⟨.t 73, .p (.bin .eql), [.l 8, .c (.int .i64 20)], none, 0, 0⟩, ⟨.l 69, .p (.mv), [.t 73], none, 0, 0⟩])
 (.cond (.l 69) .skip
 (.reg [⟨.t 74, .p (.bin .eql), [.l 8, .c (.int .i64 21)], none, 0, 0⟩, ⟨.l 69, .p (.mv), [.t 74], none, 0, 0⟩])))))))))
 (.cond (.l 69) (.seq (.reg [⟨.t 75, .p (.mv), [.l 1], none, 0, 0⟩, ⟨.t 76, .p (.nilc), [.t 75], none, 0, 0⟩, ⟨.t 77, .p (.fa 5), [.t 76], none, 0, 0⟩, ⟨.t 78, .r (.load false 1), [.t 77], none, 0, 0⟩, ⟨.t 79, .call 234, [.t 78, .c (.int .i64 0), .c (.int .i64 16)], none, 0, 0⟩, ⟨.l 4, .p (.mv), [.t 79], none, 0, 0⟩])
 .ret)
 (.seq (.reg [⟨.t 81, .p (.bin .eql), [.l 8, .c (.int .i64 24)], none, 0, 0⟩, ⟨.l 80, .p (.mv), [.t 81], none, 0, 0⟩])
 (.cond (.l 80) (.seq (.reg [⟨.t 82, .p (.mv), [.l 1], none, 0, 0⟩, ⟨.t 83, .p (.nilc), [.t 82], none, 0, 0⟩, ⟨.t 84, .p (.fa 5), [.t 83], none, 0, 0⟩, ⟨.t 85, .r (.load false 1), [.t 84], none, 0, 0⟩, ⟨.t 86, .call 234, [.t 85, .c (.int .i64 1), .c (.int .i64 8192)], none, 0, 0⟩, ⟨.l 4, .p (.mv), [.t 86], none, 0, 0⟩])
 .ret)
 (.seq (.reg [⟨.t 88, .p (.bin .eql), [.l 8, .c (.int .i64 31)], none, 0, 0⟩, ⟨.l 87, .p (.mv), [.t 88], none, 0, 0⟩])
 (.cond (.l 87) (.seq (.reg [⟨.t 89, .p (.mv), [.l 1], none, 0, 0⟩, ⟨.t 90, .p (.nilc), [.t 89], none, 0, 0⟩, ⟨.t 91, .p (.fa 5), [.t 90], none, 0, 0⟩, ⟨.t 92, .r (.load false 1), [.t 91], none, 0, 0⟩, ⟨.t 93, .call 234, [.t 92, .c (.int .i64 0), .c (.int .i64 3)], none, 0, 0⟩, ⟨.l 4, .p (.mv), [.t 93], none, 0, 0⟩])
 .ret)
 (.seq (.seq (.reg [⟨.t 95, .p (.bin .eql), [.l 8, .c (.int .i64 32)], none, 0, 0⟩, ⟨.l 94, .p (.mv), [.t 95], none, 0, 0⟩])
 (.cond (.l 94) .skip
 (.reg [⟨.t 96, .p (.bin .eql), [.l 8, .c (.int .i64 33)], none, 0, 0⟩, ⟨.l 94, .p (.mv), [.t 96], none, 0, 0⟩])))
 (.cond (.l 94) (.seq (.reg [⟨.t 97, .p (.mv), [.l 1], none, 0, 0⟩, ⟨.t 98, .p (.nilc), [.t 97], none, 0, 0⟩, ⟨.t 99, .p (.fa 5), [.t 98], none, 0, 0⟩, ⟨.t 100, .r (.load false 1), [.t 99], none, 0, 0⟩, ⟨.t 101, .p (.bin .eql), [.t 100, .c (.int .i64 1)], none, 0, 0⟩, ⟨.t 102, .p (.mv), [.t 101], none, 0, 0⟩, ⟨.t 103, .p (.mv), [.l 1], (some (.t 102, false)), 0, 0⟩, ⟨.t 104, .p (.nilc), [.t 103], (some (.t 102, false)), 0, 0⟩, ⟨.t 105, .p (.fa 5), [.t 104], (some (.t 102, false)), 0, 0⟩, ⟨.t 106, .r (.load false 1), [.t 105], (some (.t 102, false)), 0, 0⟩, ⟨.t 107, .p (.bin .eql), [.t 106, .c (.int .i64 8)], (some (.t 102, false)), 0, 0⟩, ⟨.t 108, .p (.pick), [.t 102, .c (.bool true), .t 107], none, 0, 0⟩, ⟨.l 4, .p (.mv), [.t 108], none, 0, 0⟩])
 .ret)
 .skip))))))))))))))))))
 (.seq (.reg [⟨.l 4, .p (.mv), [.c (.bool true)], none, 0, 0⟩])
 .ret))),
 [.tmp (.l 4)]⟩
theorem cf171_ok : compF TP Tryz.f171 = some cf171 := by kernel_rfl
def cf172 : CF := ⟨1, (.seq (.reg [⟨.l 2, .p (.mv), [.c (.bool false)], none, 0, 0⟩])
 (.seq (.reg [⟨.t 5, .p (.mv), [.l 0], none, 0, 0⟩, ⟨.t 6, .p (.nilc), [.t 5], none, 0, 0⟩, ⟨.t 7, .p (.fa 3), [.t 6], none, 0, 0⟩, ⟨.t 8, .r (.load false 1), [.t 7], none, 0, 0⟩, ⟨.t 9, .p (.leng .sl), [.t 8], none, 0, 0⟩, ⟨.l 3, .p (.mv), [.t 9], none, 0, 0⟩])
 (.seq (.seq (.reg [⟨.t 10, .p (.mv), [.l 0], none, 0, 0⟩, ⟨.t 11, .p (.nilc), [.t 10], none, 0, 0⟩, ⟨.t 12, .p (.fa 0), [.t 11], none, 0, 0⟩, ⟨.l 13, .r (.load false 1), [.t 12], none, 0, 0⟩])
 (.block 0 (.seq (.reg [⟨.t 15, .p (.bin .eql), [.l 13, .c (.int .i64 13)], none, 0, 0⟩, ⟨.l 14, .p (.mv), [.t 15], none, 0, 0⟩])
 (.cond (.l 14) (.seq (.reg [⟨.t 16, .p (.mv), [.l 0], none, 0, 0⟩, ⟨.t 17, .p (.nilc), [.t 16], none, 0, 0⟩, ⟨.t 18, .p (.fa 7), [.t 17], none, 0, 0⟩, ⟨.t 19, .r (.load false 1), [.t 18], none, 0, 0⟩, ⟨.t 20, .p (.bin .eql), [.t 19, .c (.str 2 32123)], none, 0, 0⟩, ⟨.t 21, .p (.mv), [.t 20], none, 0, 0⟩, ⟨.t 22, .p (.mv), [.l 0], (some (.t 21, false)), 0, 0⟩, ⟨.t 23, .p (.nilc), [.t 22], (some (.t 21, false)), 0, 0⟩, ⟨.t 24, .p (.fa 7), [.t 23], (some (.t 21, false)), 0, 0⟩, ⟨.t 25, .r (.load false 1), [.t 24], (some (.t 21, false)), 0, 0⟩, ⟨.t 26, .p (.bin .eql), [.t 25, .c (.str 1 124)], (some (.t 21, false)), 0, 0⟩, ⟨.t 27, .p (.mv), [.t 26], (some (.t 21, false)), 0, 0⟩, ⟨.t 28, .p (.mv), [.l 3], (some (.t 27, true)), 0, 0⟩, ⟨.t 29, .p (.bin .eql), [.t 28, .c (.int .i64 2)], (some (.t 27, true)), 0, 0⟩, ⟨.t 30, .p (.pick), [.t 27, .t 29, .c (.bool false)], (some (.t 21, false)), 0, 0⟩, ⟨.t 31, .p (.pick), [.t 21, .c (.bool true), .t 30], none, 0, 0⟩, ⟨.t 32, .p (.mv), [.t 31], none, 0, 0⟩, ⟨.t 33, .p (.mv), [.l 0], (some (.t 32, false)), 0, 0⟩, ⟨.t 34, .p (.nilc), [.t 33], (some (.t 32, false)), 0, 0⟩, ⟨.t 35, .p (.fa 7), [.t 34], (some (.t 32, false)), 0, 0⟩, ⟨.t 36, .r (.load false 1), [.t 35], (some (.t 32, false)), 0, 0⟩, ⟨.t 37, .p (.bin .neq), [.t 36, .c (.str 2 11051)], (some (.t 32, false)), 0, 0⟩, ⟨.t 38, .p (.mv), [.t 37], (some (.t 32, false)), 0, 0⟩, ⟨.t 39, .p (.mv), [.l 0], (some (.t 38, true)), 0, 0⟩, ⟨.t 40, .p (.nilc), [.t 39], (some (.t 38, true)), 0, 0⟩, ⟨.t 41, .p (.fa 7), [.t 40], (some (.t 38, true)), 0, 0⟩, ⟨.t 42, .r (.load false 1), [.t 41], (some (.t 38, true)), 0, 0⟩, ⟨.t 43, .p (.mv), [.l 3], (some (.t 38, true)), 0, 0⟩, ⟨.t 44, .call 237, [.t 42, .t 43], (some (.t 38, true)), 0, 0⟩, ⟨.t 45, .p (.pick), [.t 38, .t 44, .c (.bool false)], (some (.t 32, false)), 0, 0⟩, ⟨.t 46, .p (.pick), [.t 32, .c (.bool true), .t 45], none, 0, 0⟩, ⟨.t 47, .p (.mv), [.t 46], none, 0, 0⟩, ⟨.t 48, .p (.mv), [.l 0], (some (.t 47, false)), 0, 0⟩, ⟨.t 49, .p (.nilc), [.t 48], (some (.t 47, false)), 0, 0⟩, ⟨.t 50, .p (.fa 7), [.t 49], (some (.t 47, false)), 0, 0⟩, ⟨.t 51, .r (.load false 1), [.t 50], (some (.t 47, false)), 0, 0⟩, ⟨.t 52, .p (.mv), [.l 3], (some (.t 47, false)), 0, 0⟩, ⟨.t 53, .call 238, [.t 51, .t 52], (some (.t 47, false)), 0, 0⟩, ⟨.t 54, .p (.bin .eql), [.t 53, .c (.int .i64 1)], (some (.t 47, false)), 0, 0⟩, ⟨.t 55, .p (.pick), [.t 47, .c (.bool true), .t 54], none, 0, 0⟩, ⟨.l 2, .p (.mv), [.t 55], none, 0, 0⟩])
 .ret)
 (.seq (.reg [⟨.t 57, .p (.bin .eql), [.l 13, .c (.int .i64 14)], none, 0, 0⟩, ⟨.l 56, .p (.mv), [.t 57], none, 0, 0⟩])
 (.cond (.l 56) (.seq (.reg [⟨.t 58, .p (.mv), [.l 0], none, 0, 0⟩, ⟨.t 59, .p (.nilc), [.t 58], none, 0, 0⟩, ⟨.t 60, .p (.fa 7), [.t 59], none, 0, 0⟩, ⟨.t 61, .r (.load false 1), [.t 60], none, 0, 0⟩, ⟨.t 62, .p (.mv), [.l 3], none, 0, 0⟩, ⟨.t 63, .call 238, [.t 61, .t 62], none, 0, 0⟩, ⟨.l 4, .p (.mv), [.t 63], none, 0, 0⟩])
 (.seq (.reg [⟨.t 64, .p (.mv), [.l 0], none, 0, 0⟩, ⟨.t 65, .p (.nilc), [.t 64], none, 0, 0⟩, ⟨.t 66, .p (.fa 7), [.t 65], none, 0, 0⟩, ⟨.t 67, .r (.load false 1), [.t 66], none, 0, 0⟩, ⟨.t 68, .p (.mv), [.l 3], none, 0, 0⟩, ⟨.t 69, .call 237, [.t 67, .t 68], none, 0, 0⟩, ⟨.t 70, .p (.mv), [.t 69], none, 0, 0⟩, ⟨.t 71, .p (.mv), [.l 4], (some (.t 70, false)), 0, 0⟩, ⟨.t 72, .p (.bin .eql), [.t 71, .c (.int .i64 1)], (some (.t 70, false)), 0, 0⟩, ⟨.t 73, .p (.pick), [.t 70, .c (.bool true), .t 72], none, 0, 0⟩, ⟨.t 74, .p (.mv), [.t 73], none, 0, 0⟩, ⟨.t 75, .p (.mv), [.l 4], (some (.t 74, false)), 0, 0⟩, ⟨.t 76, .p (.bin .eql), [.t 75, .c (.int .i64 2)], (some (.t 74, false)), 0, 0⟩, ⟨.t 77, .p (.pick), [.t 74, .c (.bool true), .t 76], none, 0, 0⟩, ⟨.l 2, .p (.mv), [.t 77], none, 0, 0⟩])
 .ret))
 (.seq (.reg [⟨.t 79, .p (.bin .eql), [.l 13, .c (.int .i64 15)], none, 0, 0⟩, ⟨.l 78, .p (.mv), [.t 79], none, 0, 0⟩])
 (.cond (.l 78) (.seq (.regD [⟨.t 80, .p (.mv), [.l 0], none, 0, 0⟩, ⟨.t 81, .p (.nilc), [.t 80], none, 0, 0⟩, ⟨.t 82, .p (.fa 7), [.t 81], none, 0, 0⟩, ⟨.t 83, .r (.load false 1), [.t 82], none, 0, 0⟩, ⟨.t 84, .p (.bin .eql), [.t 83, .c (.str 1 33)], none, 0, 0⟩, ⟨.t 85, .p (.mv), [.t 84], none, 0, 0⟩, ⟨.t 86, .p (.mv), [.l 0], (some (.t 85, true)), 0, 0⟩, ⟨.t 87, .p (.nilc), [.t 86], (some (.t 85, true)), 0, 0⟩, ⟨.t 88, .p (.fa 5), [.t 87], (some (.t 85, true)), 0, 0⟩, ⟨.t 89, .r (.load false 1), [.t 88], (some (.t 85, true)), 0, 0⟩, ⟨.t 90, .p (.bin .eql), [.t 89, .c (.int .i64 2)], (some (.t 85, true)), 0, 0⟩, ⟨.t 91, .p (.pick), [.t 85, .t 90, .c (.bool false)], none, 0, 0⟩, ⟨.t 92, .p (.mv), [.t 91], none, 0, 0⟩, ⟨.t 93, .p (.mv), [.l 0], (some (.t 92, false)), 0, 0⟩, ⟨.t 94, .p (.nilc), [.t 93], (some (.t 92, false)), 0, 0⟩, ⟨.t 95, .p (.fa 7), [.t 94], (some (.t 92, false)), 0, 0⟩, ⟨.t 96, .r (.load false 1), [.t 95], (some (.t 92, false)), 0, 0⟩, ⟨.t 97, .p (.mv), [.l 0], (some (.t 92, false)), 0, 0⟩, ⟨.t 98, .p (.nilc), [.t 97], (some (.t 92, false)), 0, 0⟩, ⟨.t 99, .p (.fa 5), [.t 98], (some (.t 92, false)), 0, 0⟩, ⟨.t 100, .r (.load false 1), [.t 99], (some (.t 92, false)), 0, 0⟩, ⟨.t 101, .call 238, [.t 96, .t 100], (some (.t 92, false)), 0, 1⟩, ⟨.t 102, .p (.bin .eql), [.t 101, .c (.int .i64 3)], (some (.t 92, false)), 1, 1⟩, ⟨.t 103, .p (.pick), [.t 92, .c (.bool true), .t 102], none, 1, 1⟩, ⟨.l 2, .p (.mv), [.t 103], none, 1, 1⟩])
 .ret)
 .skip))))))))
 (.seq (.reg [⟨.l 2, .p (.mv), [.c (.bool true)], none, 0, 0⟩])
 .ret)))),
 [.tmp (.l 2)]⟩
theorem cf172_ok : compF TP Tryz.f172 = some cf172 := by kernel_rfl
def cf173 : CF := ⟨2, (.seq (.reg [⟨.l 4, .p (.mv), [.c (.bool false)], none, 0, 0⟩])
 (.seq (.seq (.reg [⟨.t 10, .p (.mv), [.l 1], none, 0, 0⟩, ⟨.t 11, .p (.nilc), [.t 10], none, 0, 0⟩, ⟨.t 12, .p (.fa 0), [.t 11], none, 0, 0⟩, ⟨.t 13, .r (.load false 1), [.t 12], none, 0, 0⟩, ⟨.t 14, .p (.bin .eql), [.t 13, .c (.int .i64 12)], none, 0, 0⟩, ⟨.t 15, .p (.mv), [.t 14], none, 0, 0⟩, ⟨.t 16, .p (.mv), [.l 1], (some (.t 15, true)), 0, 0⟩, ⟨.t 17, .p (.nilc), [.t 16], (some (.t 15, true)), 0, 0⟩, ⟨.t 18, .p (.fa 8), [.t 17], (some (.t 15, true)), 0, 0⟩, ⟨.t 19, .r (.load false 1), [.t 18], (some (.t 15, true)), 0, 0⟩, ⟨.t 20, .p (.leng .sl), [.t 19], (some (.t 15, true)), 0, 0⟩, ⟨.t 21, .call 234, [.t 20, .c (.int .i64 1), .c (.int .i64 1000)], (some (.t 15, true)), 0, 0⟩, ⟨.t 22, .p (.un .not), [.t 21], (some (.t 15, true)), 0, 0⟩, ⟨.t 23, .p (.pick), [.t 15, .t 22, .c (.bool false)], none, 0, 0⟩, ⟨.t 24, .p (.mv), [.t 23], none, 0, 0⟩, ⟨.t 25, .p (.mv), [.l 1], (some (.t 24, false)), 0, 0⟩, ⟨.t 26, .p (.nilc), [.t 25], (some (.t 24, false)), 0, 0⟩, ⟨.t 27, .p (.fa 9), [.t 26], (some (.t 24, false)), 0, 0⟩, ⟨.t 28, .r (.load false 1), [.t 27], (some (.t 24, false)), 0, 0⟩, ⟨.t 29, .p (.leng .sl), [.t 28], (some (.t 24, false)), 0, 0⟩, ⟨.t 30, .p (.bin .gtr), [.t 29, .c (.int .i64 60)], (some (.t 24, false)), 0, 0⟩, ⟨.l 31, .p (.pick), [.t 24, .c (.bool true), .t 30], none, 0, 0⟩])
 (.cond (.l 31) (.seq (.reg [⟨.l 4, .p (.mv), [.c (.bool false)], none, 0, 0⟩])
 .ret)
 .skip))
 (.seq (.seq (.reg [⟨.t 32, .p (.mv), [.l 1], none, 0, 0⟩, ⟨.t 33, .p (.nilc), [.t 32], none, 0, 0⟩, ⟨.t 34, .p (.fa 8), [.t 33], none, 0, 0⟩, ⟨.l 35, .r (.load false 1), [.t 34], none, 0, 0⟩, ⟨.l 36, .p (.leng .sl), [.l 35], none, 0, 0⟩, ⟨.l 37, .p (.mv), [.c (.int .i64 0)], none, 0, 0⟩])
 (.block 0 (.loop (.seq (.reg [⟨.l 38, .p (.bin .lss), [.l 37, .l 36], none, 0, 0⟩])
 (.seq (.cond (.l 38) .skip
 (.exit 0))
 (.seq (.block 1 (.seq (.reg [⟨.t 39, .p (.mv), [.l 37], none, 0, 0⟩, ⟨.t 40, .p (.ixsl 2), [.l 35, .l 37], none, 0, 0⟩, ⟨.t 41, .r (.load true 2), [.t 40], none, 0, 0⟩, ⟨.l 6, .a (.alloc [(.int .i64 0), (.int .i64 0)]), [], none, 0, 0⟩, ⟨.l 5, .p (.mv), [.t 39], none, 0, 0⟩, ⟨.no, .e (.store 2), [.l 6, .t 41], none, 0, 0⟩])
 (.seq (.seq (.regD [⟨.t 42, .p (.fa 0), [.l 6], none, 0, 0⟩, ⟨.t 43, .r (.load false 1), [.t 42], none, 0, 0⟩, ⟨.t 44, .p (.mv), [.l 0], none, 0, 0⟩, ⟨.t 45, .p (.nilc), [.t 44], none, 0, 0⟩, ⟨.t 46, .p (.fa 2), [.t 45], none, 0, 0⟩, ⟨.t 47, .r (.load false 1), [.t 46], none, 0, 0⟩, ⟨.t 48, .p (.leng .sl), [.t 47], none, 0, 0⟩, ⟨.t 49, .p (.bin .sub), [.t 48, .c (.int .i64 1)], none, 0, 0⟩, ⟨.t 50, .call 234, [.t 43, .c (.int .i64 0), .t 49], none, 0, 1⟩, ⟨.l 51, .p (.un .not), [.t 50], none, 1, 1⟩])
 (.cond (.l 51) (.seq (.reg [⟨.l 4, .p (.mv), [.c (.bool false)], none, 0, 0⟩])
 .ret)
 .skip))
 (.seq (.seq (.regD [⟨.t 52, .p (.mv), [.l 0], none, 0, 0⟩, ⟨.t 53, .p (.nilc), [.t 52], none, 0, 0⟩, ⟨.t 54, .p (.fa 2), [.t 53], none, 0, 0⟩, ⟨.t 55, .r (.load false 1), [.t 54], none, 0, 0⟩, ⟨.t 56, .p (.fa 0), [.l 6], none, 0, 0⟩, ⟨.t 57, .r (.load false 1), [.t 56], none, 0, 0⟩, ⟨.t 58, .p (.ixsl 9), [.t 55, .t 57], none, 0, 0⟩, ⟨.t 59, .p (.fa 0), [.t 58], none, 0, 0⟩, ⟨.l 60, .r (.load false 1), [.t 59], none, 0, 0⟩])
 (.block 2 (.seq (.seq (.reg [⟨.t 62, .p (.bin .eql), [.l 60, .c (.int .i64 1)], none, 0, 0⟩, ⟨.l 61, .p (.mv), [.t 62], none, 0, 0⟩])
 (.cond (.l 61) .skip
 (.seq (.reg [⟨.t 63, .p (.bin .eql), [.l 60, .c (.int .i64 2)], none, 0, 0⟩, ⟨.l 61, .p (.mv), [.t 63], none, 0, 0⟩])
 (.cond (.l 61) .skip
 (.reg [⟨.t 64, .p (.bin .eql), [.l 60, .c (.int .i64 8)], none, 0, 0⟩, ⟨.l 61, .p (.mv), [.t 64], none, 0, 0⟩])))))
 (.cond (.l 61) .skip
 (.seq (.reg [⟨.l 4, .p (.mv), [.c (.bool false)], none, 0, 0⟩])
 .ret)))))
 (.seq (.regD [⟨.t 65, .p (.mv), [.l 5], none, 0, 0⟩, ⟨.t 66, .p (.bin .gtr), [.t 65, .c (.int .i64 0)], none, 0, 0⟩, ⟨.t 67, .p (.mv), [.t 66], none, 0, 0⟩, ⟨.t 68, .p (.mv), [.l 0], (some (.t 67, true)), 0, 0⟩, ⟨.t 69, .p (.nilc), [.t 68], (some (.t 67, true)), 0, 0⟩, ⟨.t 70, .p (.fa 2), [.t 69], (some (.t 67, true)), 0, 0⟩, ⟨.t 71, .r (.load false 1), [.t 70], (some (.t 67, true)), 0, 0⟩, ⟨.t 72, .p (.mv), [.l 1], (some (.t 67, true)), 0, 0⟩, ⟨.t 73, .p (.nilc), [.t 72], (some (.t 67, true)), 0, 0⟩, ⟨.t 74, .p (.fa 8), [.t 73], (some (.t 67, true)), 0, 0⟩, ⟨.t 75, .r (.load false 1), [.t 74], (some (.t 67, true)), 0, 0⟩, ⟨.t 76, .p (.mv), [.l 5], (some (.t 67, true)), 0, 0⟩, ⟨.t 77, .p (.bin .sub), [.t 76, .c (.int .i64 1)], (some (.t 67, true)), 0, 0⟩, ⟨.t 78, .p (.ixsl 2), [.t 75, .t 77], (some (.t 67, true)), 0, 0⟩, ⟨.t 79, .p (.fa 0), [.t 78], (some (.t 67, true)), 0, 0⟩, ⟨.t 80, .r (.load false 1), [.t 79], (some (.t 67, true)), 0, 0⟩, ⟨.t 81, .p (.ixsl 9), [.t 71, .t 80], (some (.t 67, true)), 0, 0⟩, ⟨.t 82, .r (.load true 9), [.t 81], (some (.t 67, true)), 0, 0⟩, ⟨.t 83, .p (.mv), [.l 0], (some (.t 67, true)), 0, 0⟩, ⟨.t 84, .p (.nilc), [.t 83], (some (.t 67, true)), 0, 0⟩, ⟨.t 85, .p (.fa 2), [.t 84], (some (.t 67, true)), 0, 0⟩, ⟨.t 86, .r (.load false 1), [.t 85], (some (.t 67, true)), 0, 0⟩, ⟨.t 87, .p (.fa 0), [.l 6], (some (.t 67, true)), 0, 0⟩, ⟨.t 88, .r (.load false 1), [.t 87], (some (.t 67, true)), 0, 0⟩, ⟨.t 89, .p (.ixsl 9), [.t 86, .t 88], (some (.t 67, true)), 0, 0⟩, ⟨.t 90, .r (.load true 9), [.t 89], (some (.t 67, true)), 0, 0⟩, ⟨.t 91, .call 239, [.t 82, .t 90], (some (.t 67, true)), 0, 1⟩, ⟨.t 92, .p (.un .not), [.t 91], (some (.t 67, true)), 1, 1⟩, ⟨.l 93, .p (.pick), [.t 67, .t 92, .c (.bool false)], none, 1, 1⟩])
 (.cond (.l 93) (.seq (.reg [⟨.l 4, .p (.mv), [.c (.bool false)], none, 0, 0⟩])
 .ret)
 .skip))))))
 (.reg [⟨.t 94, .p (.bin .add), [.l 37, .c (.int .i64 1)], none, 0, 0⟩, ⟨.l 37, .p (.mv), [.t 94], none, 0, 0⟩])))))))
 (.seq (.seq (.reg [⟨.t 95, .p (.mv), [.l 1], none, 0, 0⟩, ⟨.t 96, .p (.nilc), [.t 95], none, 0, 0⟩, ⟨.t 97, .p (.fa 9), [.t 96], none, 0, 0⟩, ⟨.l 98, .r (.load false 1), [.t 97], none, 0, 0⟩, ⟨.l 99, .p (.leng .sl), [.l 98], none, 0, 0⟩, ⟨.l 100, .p (.mv), [.c (.int .i64 0)], none, 0, 0⟩])
 (.block 3 (.loop (.seq (.reg [⟨.l 101, .p (.bin .lss), [.l 100, .l 99], none, 0, 0⟩])
 (.seq (.cond (.l 101) .skip
 (.exit 3))
 (.seq (.block 4 (.seq (.reg [⟨.t 102, .p (.ixsl 6), [.l 98, .l 100], none, 0, 0⟩, ⟨.t 103, .r (.load true 6), [.t 102], none, 0, 0⟩, ⟨.l 8, .a (.alloc [(.int .i64 0), (.int .i64 0), (.int .i64 0), (.int .i64 0), (.int .i64 0), (.bool false)]), [], none, 0, 0⟩, ⟨.no, .e (.store 6), [.l 8, .t 103], none, 0, 0⟩])
 (.seq (.reg [⟨.t 104, .p (.fa 3), [.l 8], none, 0, 0⟩, ⟨.t 105, .r (.load true 2), [.t 104], none, 0, 0⟩, ⟨.t 106, .p (.build [(.int .i64 0), (.int .i64 0)] []), [], none, 0, 0⟩, ⟨.t 107, .r (.eq (.agg [.i, .i]) true), [.t 105, .t 106], none, 0, 0⟩, ⟨.l 9, .p (.mv), [.t 107], none, 0, 0⟩])
 (.seq (.reg [⟨.t 108, .p (.fa 0), [.l 8], none, 0, 0⟩, ⟨.t 109, .r (.load false 1), [.t 108], none, 0, 0⟩, ⟨.t 110, .call 234, [.t 109, .c (.int .i64 1), .c (.int .i64 3)], none, 0, 0⟩, ⟨.t 111, .p (.un .not), [.t 110], none, 0, 0⟩, ⟨.t 112, .p (.mv), [.t 111], none, 0, 0⟩, ⟨.t 113, .p (.mv), [.l 0], (some (.t 112, false)), 0, 0⟩, ⟨.t 114, .p (.fa 1), [.l 8], (some (.t 112, false)), 0, 0⟩, ⟨.t 115, .r (.load true 2), [.t 114], (some (.t 112, false)), 0, 0⟩, ⟨.t 116, .call 236, [.t 113, .t 115], (some (.t 112, false)), 0, 0⟩, ⟨.t 117, .p (.un .not), [.t 116], (some (.t 112, false)), 0, 0⟩, ⟨.t 118, .p (.pick), [.t 112, .c (.bool true), .t 117], none, 0, 0⟩, ⟨.t 119, .p (.mv), [.t 118], none, 0, 0⟩, ⟨.t 120, .p (.mv), [.l 9], (some (.t 119, false)), 0, 0⟩, ⟨.t 121, .p (.mv), [.t 120], (some (.t 119, false)), 0, 0⟩, ⟨.t 122, .p (.mv), [.l 0], (some (.t 121, true)), 0, 0⟩, ⟨.t 123, .p (.fa 3), [.l 8], (some (.t 121, true)), 0, 0⟩, ⟨.t 124, .r (.load true 2), [.t 123], (some (.t 121, true)), 0, 0⟩, ⟨.t 125, .call 236, [.t 122, .t 124], (some (.t 121, true)), 0, 0⟩, ⟨.t 126, .p (.un .not), [.t 125], (some (.t 121, true)), 0, 0⟩, ⟨.t 127, .p (.pick), [.t 121, .t 126, .c (.bool false)], (some (.t 119, false)), 0, 0⟩, ⟨.t 128, .p (.pick), [.t 119, .c (.bool true), .t 127], none, 0, 0⟩, ⟨.t 129, .p (.mv), [.t 128], none, 0, 0⟩, ⟨.t 130, .p (.fa 5), [.l 8], (some (.t 129, false)), 0, 0⟩, ⟨.t 131, .r (.load false 1), [.t 130], (some (.t 129, false)), 0, 0⟩, ⟨.t 132, .p (.mv), [.t 131], (some (.t 129, false)), 0, 0⟩, ⟨.t 133, .p (.fa 0), [.l 8], (some (.t 132, true)), 0, 0⟩, ⟨.t 134, .r (.load false 1), [.t 133], (some (.t 132, true)), 0, 0⟩, ⟨.t 135, .p (.bin .neq), [.t 134, .c (.int .i64 1)], (some (.t 132, true)), 0, 0⟩, ⟨.t 136, .p (.pick), [.t 132, .t 135, .c (.bool false)], (some (.t 129, false)), 0, 0⟩, ⟨.l 137, .p (.pick), [.t 129, .c (.bool true), .t 136], none, 0, 0⟩])
 (.cond (.l 137) (.seq (.reg [⟨.l 4, .p (.mv), [.c (.bool false)], none, 0, 0⟩])
 .ret)
 .skip)))))
 (.reg [⟨.t 138, .p (.bin .add), [.l 100, .c (.int .i64 1)], none, 0, 0⟩, ⟨.l 100, .p (.mv), [.t 138], none, 0, 0⟩])))))))
 (.seq (.reg [⟨.l 4, .p (.mv), [.c (.bool true)], none, 0, 0⟩])
 .ret))))),
 [.tmp (.l 4)]⟩
theorem cf173_ok : compF TP Tryz.f173 = some cf173 := by kernel_rfl
def cf174 : CF := ⟨3, (.seq (.reg [⟨.l 5, .a (.box), [.l 2], none, 0, 0⟩, ⟨.l 6, .p (.mv), [.c (.bool false)], none, 0, 0⟩])
 (.seq (.regD [⟨.t 11, .p (.mv), [.l 0], none, 0, 0⟩, ⟨.t 12, .p (.nilc), [.t 11], none, 0, 0⟩, ⟨.t 13, .p (.fa 5), [.t 12], none, 0, 0⟩, ⟨.t 14, .r (.load false 1), [.t 13], none, 0, 0⟩, ⟨.t 15, .p (.mv), [.l 1], none, 0, 0⟩, ⟨.t 16, .p (.ixsl 10), [.t 14, .t 15], none, 0, 0⟩, ⟨.t 17, .p (.mv), [.l 0], none, 0, 0⟩, ⟨.t 18, .p (.nilc), [.t 17], none, 0, 0⟩, ⟨.t 19, .p (.fa 5), [.t 18], none, 0, 0⟩, ⟨.t 20, .r (.load false 1), [.t 19], none, 0, 0⟩, ⟨.t 21, .p (.leng .sl), [.t 20], none, 0, 0⟩, ⟨.t 22, .p (.bin .sub), [.t 21, .c (.int .i64 1)], none, 0, 0⟩, ⟨.l 7, .p (.mv), [.t 16], none, 0, 0⟩, ⟨.l 8, .p (.mv), [.t 22], none, 0, 0⟩])
 (.seq (.seq (.reg [⟨.t 23, .p (.mv), [.l 7], none, 0, 0⟩, ⟨.t 24, .p (.nilc), [.t 23], none, 0, 0⟩, ⟨.t 25, .p (.fa 0), [.t 24], none, 0, 0⟩, ⟨.l 26, .r (.load false 1), [.t 25], none, 0, 0⟩])
 (.block 0 (.seq (.seq (.reg [⟨.t 28, .p (.bin .eql), [.l 26, .c (.int .i64 39)], none, 0, 0⟩, ⟨.l 27, .p (.mv), [.t 28], none, 0, 0⟩])
 (.cond (.l 27) .skip
 (.reg [⟨.t 29, .p (.bin .eql), [.l 26, .c (.int .i64 40)], none, 0, 0⟩, ⟨.l 27, .p (.mv), [.t 29], none, 0, 0⟩])))
 (.cond (.l 27) (.seq (.regD [⟨.t 30, .p (.mv), [.l 7], none, 0, 0⟩, ⟨.t 31, .p (.nilc), [.t 30], none, 0, 0⟩, ⟨.t 32, .p (.fa 4), [.t 31], none, 0, 0⟩, ⟨.t 33, .r (.load false 1), [.t 32], none, 0, 0⟩, ⟨.t 34, .p (.mv), [.l 8], none, 0, 0⟩, ⟨.t 35, .call 234, [.t 33, .c (.int .i64 0), .t 34], none, 0, 1⟩, ⟨.t 36, .p (.mv), [.t 35], none, 1, 1⟩, ⟨.t 37, .p (.mv), [.l 0], (some (.t 36, true)), 1, 1⟩, ⟨.t 38, .p (.nilc), [.t 37], (some (.t 36, true)), 1, 1⟩, ⟨.t 39, .p (.fa 5), [.t 38], (some (.t 36, true)), 1, 1⟩, ⟨.t 40, .r (.load false 1), [.t 39], (some (.t 36, true)), 1, 1⟩, ⟨.t 41, .p (.mv), [.l 7], (some (.t 36, true)), 1, 1⟩, ⟨.t 42, .p (.nilc), [.t 41], (some (.t 36, true)), 1, 1⟩, ⟨.t 43, .p (.fa 4), [.t 42], (some (.t 36, true)), 1, 1⟩, ⟨.t 44, .r (.load false 1), [.t 43], (some (.t 36, true)), 1, 1⟩, ⟨.t 45, .p (.ixsl 10), [.t 40, .t 44], (some (.t 36, true)), 1, 1⟩, ⟨.t 46, .p (.fa 0), [.t 45], (some (.t 36, true)), 1, 1⟩, ⟨.t 47, .r (.load false 1), [.t 46], (some (.t 36, true)), 1, 1⟩, ⟨.t 48, .p (.bin .eql), [.t 47, .c (.int .i64 37)], (some (.t 36, true)), 1, 1⟩, ⟨.t 49, .p (.pick), [.t 36, .t 48, .c (.bool false)], none, 1, 1⟩, ⟨.l 6, .p (.mv), [.t 49], none, 1, 1⟩])
 .ret)
 .skip))))
 (.seq (.seq (.reg [⟨.t 50, .p (.mv), [.l 7], none, 0, 0⟩, ⟨.t 51, .p (.nilc), [.t 50], none, 0, 0⟩, ⟨.t 52, .p (.fa 8), [.t 51], none, 0, 0⟩, ⟨.l 53, .r (.load false 1), [.t 52], none, 0, 0⟩, ⟨.l 54, .p (.leng .sl), [.l 53], none, 0, 0⟩, ⟨.l 55, .p (.mv), [.c (.int .i64 0)], none, 0, 0⟩])
 (.block 1 (.loop (.seq (.reg [⟨.l 56, .p (.bin .lss), [.l 55, .l 54], none, 0, 0⟩])
 (.seq (.cond (.l 56) .skip
 (.exit 1))
 (.seq (.block 2 (.seq (.reg [⟨.t 57, .p (.ixsl 2), [.l 53, .l 55], none, 0, 0⟩, ⟨.t 58, .r (.load true 2), [.t 57], none, 0, 0⟩, ⟨.l 10, .a (.alloc [(.int .i64 0), (.int .i64 0)]), [], none, 0, 0⟩, ⟨.no, .e (.store 2), [.l 10, .t 58], none, 0, 0⟩])
 (.seq (.reg [⟨.t 59, .p (.fa 1), [.l 10], none, 0, 0⟩, ⟨.t 60, .r (.load false 1), [.t 59], none, 0, 0⟩, ⟨.t 61, .p (.mv), [.l 1], none, 0, 0⟩, ⟨.t 62, .p (.bin .add), [.t 61, .c (.int .i64 1)], none, 0, 0⟩, ⟨.t 63, .p (.mv), [.l 8], none, 0, 0⟩, ⟨.t 64, .call 234, [.t 60, .t 62, .t 63], none, 0, 0⟩, ⟨.l 65, .p (.un .not), [.t 64], none, 0, 0⟩])
 (.cond (.l 65) (.seq (.reg [⟨.l 6, .p (.mv), [.c (.bool false)], none, 0, 0⟩])
 .ret)
 .skip))))
 (.reg [⟨.t 66, .p (.bin .add), [.l 55, .c (.int .i64 1)], none, 0, 0⟩, ⟨.l 55, .p (.mv), [.t 66], none, 0, 0⟩])))))))
 (.seq (.reg [⟨.t 67, .p (.fa 0), [.l 5], none, 0, 0⟩, ⟨.t 68, .r (.load false 1), [.t 67], none, 0, 0⟩, ⟨.t 69, .p (.bin .and), [.t 68, .c (.int .i64 64)], none, 0, 0⟩, ⟨.t 70, .p (.bin .eql), [.t 69, .c (.int .i64 0)], none, 0, 0⟩, ⟨.t 71, .p (.mv), [.t 70], none, 0, 0⟩, ⟨.t 72, .p (.mv), [.l 7], (some (.t 71, false)), 0, 0⟩, ⟨.t 73, .p (.nilc), [.t 72], (some (.t 71, false)), 0, 0⟩, ⟨.t 74, .p (.fa 4), [.t 73], (some (.t 71, false)), 0, 0⟩, ⟨.t 75, .r (.load false 1), [.t 74], (some (.t 71, false)), 0, 0⟩, ⟨.t 76, .p (.mv), [.l 1], (some (.t 71, false)), 0, 0⟩, ⟨.t 77, .p (.bin .add), [.t 76, .c (.int .i64 1)], (some (.t 71, false)), 0, 0⟩, ⟨.t 78, .p (.mv), [.l 8], (some (.t 71, false)), 0, 0⟩, ⟨.t 79, .call 234, [.t 75, .t 77, .t 78], (some (.t 71, false)), 0, 0⟩, ⟨.t 80, .p (.pick), [.t 71, .c (.bool true), .t 79], none, 0, 0⟩, ⟨.l 6, .p (.mv), [.t 80], none, 0, 0⟩])
 .ret))))),
 [.tmp (.l 6)]⟩
theorem cf174_ok : compF TP Tryz.f174 = some cf174 := by kernel_rfl
def cf175 : CF := ⟨2, (.seq (.seq (.reg [⟨.t 8, .p (.mv), [.l 0], none, 0, 0⟩, ⟨.t 9, .p (.nilc), [.t 8], none, 0, 0⟩, ⟨.t 10, .p (.fa 0), [.t 9], none, 0, 0⟩, ⟨.t 11, .r (.load false 1), [.t 10], none, 0, 0⟩, ⟨.l 12, .r (.eq (.one .p) false), [.t 11, .c .nilp], none, 0, 0⟩])
 (.cond (.l 12) (.seq (.reg [⟨.t 13, .p (.mv), [.l 0], none, 0, 0⟩, ⟨.t 14, .p (.mv), [.l 0], none, 0, 0⟩, ⟨.t 15, .p (.mv), [.l 1], none, 0, 0⟩, ⟨.t 16, .p (.mv), [.l 1], none, 0, 0⟩, ⟨.t 17, .a (.bslice [.nilp] 1 1 [(0, 1)]), [.t 16], none, 0, 0⟩, ⟨.t 18, .p (.nilc), [.t 13], none, 0, 0⟩, ⟨.t 19, .p (.fa 0), [.t 18], none, 0, 0⟩, ⟨.no, .e (.store 1), [.t 19, .t 15], none, 0, 0⟩, ⟨.t 20, .p (.nilc), [.t 14], none, 0, 0⟩, ⟨.t 21, .p (.fa 1), [.t 20], none, 0, 0⟩, ⟨.no, .e (.store 1), [.t 21, .t 17], none, 0, 0⟩])
 .ret)
 .skip))
 (.seq (.reg [⟨.l 4, .p (.mv), [.c (.bool false)], none, 0, 0⟩])
 (.seq (.seq (.reg [⟨.t 22, .p (.mv), [.l 0], none, 0, 0⟩, ⟨.t 23, .p (.nilc), [.t 22], none, 0, 0⟩, ⟨.t 24, .p (.fa 1), [.t 23], none, 0, 0⟩, ⟨.l 25, .r (.load false 1), [.t 24], none, 0, 0⟩, ⟨.l 26, .p (.leng .sl), [.l 25], none, 0, 0⟩, ⟨.l 27, .p (.mv), [.c (.int .i64 0)], none, 0, 0⟩])
 (.block 0 (.loop (.seq (.reg [⟨.l 28, .p (.bin .lss), [.l 27, .l 26], none, 0, 0⟩])
 (.seq (.cond (.l 28) .skip
 (.exit 0))
 (.seq (.block 1 (.seq (.reg [⟨.t 29, .p (.ixsl 1), [.l 25, .l 27], none, 0, 0⟩, ⟨.t 30, .r (.load false 1), [.t 29], none, 0, 0⟩, ⟨.l 6, .p (.mv), [.t 30], none, 0, 0⟩])
 (.seq (.reg [⟨.t 31, .p (.mv), [.l 1], none, 0, 0⟩, ⟨.t 32, .p (.mv), [.l 6], none, 0, 0⟩, ⟨.t 33, .call 240, [.t 31, .t 32], none, 0, 0⟩, ⟨.l 7, .p (.mv), [.t 33], none, 0, 0⟩])
 (.seq (.reg [⟨.t 34, .p (.mv), [.l 4], none, 0, 0⟩, ⟨.t 35, .p (.mv), [.t 34], none, 0, 0⟩, ⟨.t 36, .p (.mv), [.l 7], (some (.t 35, false)), 0, 0⟩, ⟨.t 37, .p (.bin .eql), [.t 36, .c (.int .i64 0)], (some (.t 35, false)), 0, 0⟩, ⟨.t 38, .p (.pick), [.t 35, .c (.bool true), .t 37], none, 0, 0⟩, ⟨.l 4, .p (.mv), [.t 38], none, 0, 0⟩])
 (.seq (.reg [⟨.t 39, .p (.mv), [.l 7], none, 0, 0⟩, ⟨.t 40, .p (.bin .neq), [.t 39, .c (.int .i64 0)], none, 0, 0⟩, ⟨.t 41, .p (.mv), [.t 40], none, 0, 0⟩, ⟨.t 42, .p (.mv), [.l 0], (some (.t 41, true)), 0, 0⟩, ⟨.t 43, .p (.nilc), [.t 42], (some (.t 41, true)), 0, 0⟩, ⟨.t 44, .p (.fa 2), [.t 43], (some (.t 41, true)), 0, 0⟩, ⟨.t 45, .r (.load false 1), [.t 44], (some (.t 41, true)), 0, 0⟩, ⟨.t 46, .p (.bin .eql), [.t 45, .c (.int .i64 0)], (some (.t 41, true)), 0, 0⟩, ⟨.t 47, .p (.mv), [.t 46], (some (.t 41, true)), 0, 0⟩, ⟨.t 48, .p (.mv), [.l 7], (some (.t 47, false)), 0, 0⟩, ⟨.t 49, .p (.mv), [.l 0], (some (.t 47, false)), 0, 0⟩, ⟨.t 50, .p (.nilc), [.t 49], (some (.t 47, false)), 0, 0⟩, ⟨.t 51, .p (.fa 2), [.t 50], (some (.t 47, false)), 0, 0⟩, ⟨.t 52, .r (.load false 1), [.t 51], (some (.t 47, false)), 0, 0⟩, ⟨.t 53, .p (.bin .lss), [.t 48, .t 52], (some (.t 47, false)), 0, 0⟩, ⟨.t 54, .p (.pick), [.t 47, .c (.bool true), .t 53], (some (.t 41, true)), 0, 0⟩, ⟨.l 55, .p (.pick), [.t 41, .t 54, .c (.bool false)], none, 0, 0⟩])
 (.cond (.l 55) (.reg [⟨.t 56, .p (.mv), [.l 0], none, 0, 0⟩, ⟨.t 57, .p (.mv), [.l 7], none, 0, 0⟩, ⟨.t 58, .p (.nilc), [.t 56], none, 0, 0⟩, ⟨.t 59, .p (.fa 2), [.t 58], none, 0, 0⟩, ⟨.no, .e (.store 1), [.t 59, .t 57], none, 0, 0⟩])
 .skip))))))
 (.reg [⟨.t 60, .p (.bin .add), [.l 27, .c (.int .i64 1)], none, 0, 0⟩, ⟨.l 27, .p (.mv), [.t 60], none, 0, 0⟩])))))))
 (.seq (.seq (.reg [⟨.t 61, .p (.mv), [.l 4], none, 0, 0⟩, ⟨.l 62, .p (.un .not), [.t 61], none, 0, 0⟩])
 (.cond (.l 62) (.reg [⟨.t 63, .p (.mv), [.l 0], none, 0, 0⟩, ⟨.t 64, .p (.mv), [.l 0], none, 0, 0⟩, ⟨.t 65, .p (.nilc), [.t 64], none, 0, 0⟩, ⟨.t 66, .p (.fa 1), [.t 65], none, 0, 0⟩, ⟨.t 67, .r (.load false 1), [.t 66], none, 0, 0⟩, ⟨.t 68, .p (.mv), [.l 1], none, 0, 0⟩, ⟨.t 69, .a (.bslice [.nilp] 1 1 [(0, 1)]), [.t 68], none, 0, 0⟩, ⟨.t 70, .e (.append 1 8 none), [.t 67, .t 69], none, 0, 0⟩, ⟨.t 71, .p (.nilc), [.t 63], none, 0, 0⟩, ⟨.t 72, .p (.fa 1), [.t 71], none, 0, 0⟩, ⟨.no, .e (.store 1), [.t 72, .t 70], none, 0, 0⟩])
 .skip))
 (.seq (.reg [⟨.t 73, .p (.mv), [.l 0], none, 0, 0⟩, ⟨.t 74, .p (.nilc), [.t 73], none, 0, 0⟩, ⟨.t 75, .p (.fa 2), [.t 74], none, 0, 0⟩, ⟨.t 76, .r (.load false 1), [.t 75], none, 0, 0⟩, ⟨.l 77, .p (.bin .eql), [.t 76, .c (.int .i64 0)], none, 0, 0⟩])
 (.cond (.l 77) (.reg [⟨.t 78, .p (.mv), [.l 0], none, 0, 0⟩, ⟨.t 79, .p (.mv), [.l 0], none, 0, 0⟩, ⟨.t 80, .p (.nilc), [.t 79], none, 0, 0⟩, ⟨.t 81, .p (.fa 0), [.t 80], none, 0, 0⟩, ⟨.t 82, .r (.load false 1), [.t 81], none, 0, 0⟩, ⟨.t 83, .p (.mv), [.l 1], none, 0, 0⟩, ⟨.t 84, .call 241, [.t 82, .t 83], none, 0, 0⟩, ⟨.t 85, .p (.nilc), [.t 78], none, 0, 0⟩, ⟨.t 86, .p (.fa 0), [.t 85], none, 0, 0⟩, ⟨.no, .e (.store 1), [.t 86, .t 84], none, 0, 0⟩])
 .skip)))))),
 []⟩
theorem cf175_ok : compF TP Tryz.f175 = some cf175 := by kernel_rfl
def cf176 : CF := ⟨1, (.seq (.reg [⟨.l 2, .p (.mv), [.c .nilp], none, 0, 0⟩])
 (.seq (.reg [⟨.t 3, .p (.mv), [.l 0], none, 0, 0⟩, ⟨.t 4, .call 242, [.t 3], none, 0, 0⟩, ⟨.t 5, .p (.build [(.int .i64 0), .nils, .nils, .nils, (.bool false), (.int .i64 0), (.int .i64 0)] [(0, 1), (1, 1)]), [.c (.int .i64 (-1)), .t 4], none, 0, 0⟩, ⟨.t 6, .a (.box), [.t 5], none, 0, 0⟩, ⟨.l 2, .p (.mv), [.t 6], none, 0, 0⟩])
 .ret)),
 [.tmp (.l 2)]⟩
theorem cf176_ok : compF TP Tryz.f176 = some cf176 := by kernel_rfl
def cf177 : CF := ⟨0, (.seq (.reg [⟨.l 0, .p (.mv), [.c .nils], none, 0, 0⟩])
 (.seq (.reg [⟨.t 1, .p (.build [.nilf] [(0, 1)]), [.c (.func (.func 243) [] [])], none, 0, 0⟩, ⟨.t 2, .p (.build [.nilf] [(0, 1)]), [.c (.func (.func 244) [] [])], none, 0, 0⟩, ⟨.t 3, .p (.build [.nilf] [(0, 1)]), [.c (.func (.func 245) [] [])], none, 0, 0⟩, ⟨.t 4, .p (.build [.nilf] [(0, 1)]), [.c (.func (.func 246) [] [])], none, 0, 0⟩, ⟨.t 5, .p (.build [.nilf] [(0, 1)]), [.c (.func (.func 248) [] [])], none, 0, 0⟩, ⟨.t 6, .p (.build [.nilf] [(0, 1)]), [.c (.func (.func 250) [] [])], none, 0, 0⟩, ⟨.t 7, .a (.bslice [.nilf] 6 1 [(0, 1), (1, 1), (2, 1), (3, 1), (4, 1), (5, 1)]), [.t 1, .t 2, .t 3, .t 4, .t 5, .t 6], none, 0, 0⟩, ⟨.l 0, .p (.mv), [.t 7], none, 0, 0⟩])
 .ret)),
 [.tmp (.l 0)]⟩
theorem cf177_ok : compF TP Tryz.f177 = some cf177 := by kernel_rfl
def cf178 : CF := ⟨3, (.seq (.reg [⟨.l 6, .p (.mv), [.c (.int .i64 0)], none, 0, 0⟩])
 (.seq (.reg [⟨.t 14, .p (.mv), [.l 0], none, 0, 0⟩, ⟨.t 15, .p (.nilc), [.t 14], none, 0, 0⟩, ⟨.t 16, .p (.fa 0), [.t 15], none, 0, 0⟩, ⟨.t 17, .r (.load false 1), [.t 16], none, 0, 0⟩, ⟨.t 18, .p (.nilc), [.t 17], none, 0, 0⟩, ⟨.t 19, .p (.fa 5), [.t 18], none, 0, 0⟩, ⟨.t 20, .r (.load false 1), [.t 19], none, 0, 0⟩, ⟨.t 21, .p (.mv), [.l 1], none, 0, 0⟩, ⟨.t 22, .p (.ixsl 10), [.t 20, .t 21], none, 0, 0⟩, ⟨.l 7, .p (.mv), [.t 22], none, 0, 0⟩])
 (.seq (.reg [⟨.t 24, .p (.mv), [.l 0], none, 0, 0⟩, ⟨.t 25, .p (.mv), [.l 2], none, 0, 0⟩, ⟨.t 26, .p (.mv), [.l 7], none, 0, 0⟩, ⟨.t 27, .call 252, [.t 24, .t 25, .t 26], none, 0, 0⟩, ⟨.t 23, .p (.mv), [.t 27], none, 0, 0⟩, ⟨.t 28, .p (.ext 0), [.t 23], none, 0, 0⟩, ⟨.t 29, .p (.ext 1), [.t 23], none, 0, 0⟩, ⟨.l 8, .p (.mv), [.t 28], none, 0, 0⟩, ⟨.l 9, .p (.mv), [.t 29], none, 0, 0⟩])
 (.seq (.seq (.reg [⟨.t 30, .p (.mv), [.l 0], none, 0, 0⟩, ⟨.t 31, .p (.nilc), [.t 30], none, 0, 0⟩, ⟨.t 32, .p (.fa 0), [.t 31], none, 0, 0⟩, ⟨.t 33, .r (.load false 1), [.t 32], none, 0, 0⟩, ⟨.t 34, .p (.nilc), [.t 33], none, 0, 0⟩, ⟨.t 35, .p (.fa 5), [.t 34], none, 0, 0⟩, ⟨.t 36, .r (.load false 1), [.t 35], none, 0, 0⟩, ⟨.t 37, .p (.mv), [.l 1], none, 0, 0⟩, ⟨.l 38, .call 253, [.t 36, .t 37], none, 0, 0⟩, ⟨.l 39, .p (.leng .sl), [.l 38], none, 0, 0⟩, ⟨.l 40, .p (.mv), [.c (.int .i64 0)], none, 0, 0⟩])
 (.block 0 (.loop (.seq (.reg [⟨.l 41, .p (.bin .lss), [.l 40, .l 39], none, 0, 0⟩])
 (.seq (.cond (.l 41) .skip
 (.exit 0))
 (.seq (.block 1 (.seq (.reg [⟨.t 42, .p (.ixsl 1), [.l 38, .l 40], none, 0, 0⟩, ⟨.t 43, .r (.load false 1), [.t 42], none, 0, 0⟩, ⟨.l 11, .a (.alloc [(.int .i64 0)]), [], none, 0, 0⟩, ⟨.no, .e (.store 1), [.l 11, .t 43], none, 0, 0⟩])
 (.block 2 (.seq (.regD [⟨.t 45, .r (.load false 1), [.l 11], none, 0, 0⟩, ⟨.t 46, .p (.mv), [.l 1], none, 0, 0⟩, ⟨.t 47, .p (.bin .add), [.t 46, .c (.int .i64 1)], none, 0, 0⟩, ⟨.t 48, .p (.bin .gtr), [.t 45, .t 47], none, 0, 0⟩, ⟨.t 49, .p (.mv), [.t 48], none, 0, 0⟩, ⟨.t 50, .r (.load false 1), [.l 11], (some (.t 49, false)), 0, 0⟩, ⟨.t 51, .p (.mv), [.l 1], (some (.t 49, false)), 0, 0⟩, ⟨.t 52, .p (.bin .add), [.t 51, .c (.int .i64 1)], (some (.t 49, false)), 0, 0⟩, ⟨.t 53, .p (.bin .eql), [.t 50, .t 52], (some (.t 49, false)), 0, 0⟩, ⟨.t 54, .p (.mv), [.t 53], (some (.t 49, false)), 0, 0⟩, ⟨.t 55, .p (.mv), [.l 7], (some (.t 54, true)), 0, 0⟩, ⟨.t 56, .p (.nilc), [.t 55], (some (.t 54, true)), 0, 0⟩, ⟨.t 57, .p (.fa 4), [.t 56], (some (.t 54, true)), 0, 0⟩, ⟨.t 58, .r (.load false 1), [.t 57], (some (.t 54, true)), 0, 0⟩, ⟨.t 59, .r (.load false 1), [.l 11], (some (.t 54, true)), 0, 0⟩, ⟨.t 60, .p (.bin .eql), [.t 58, .t 59], (some (.t 54, true)), 0, 0⟩, ⟨.t 61, .p (.mv), [.t 60], (some (.t 54, true)), 0, 0⟩, ⟨.t 62, .p (.mv), [.l 7], (some (.t 61, true)), 0, 0⟩, ⟨.t 63, .p (.nilc), [.t 62], (some (.t 61, true)), 0, 0⟩, ⟨.t 64, .p (.fa 0), [.t 63], (some (.t 61, true)), 0, 0⟩, ⟨.t 65, .r (.load false 1), [.t 64], (some (.t 61, true)), 0, 0⟩, ⟨.t 66, .p (.bin .neq), [.t 65, .c (.int .i64 28)], (some (.t 61, true)), 0, 0⟩, ⟨.t 67, .p (.pick), [.t 61, .t 66, .c (.bool false)], (some (.t 54, true)), 0, 0⟩, ⟨.t 68, .p (.mv), [.t 67], (some (.t 54, true)), 0, 0⟩, ⟨.t 69, .p (.mv), [.l 7], (some (.t 68, false)), 0, 0⟩, ⟨.t 70, .p (.nilc), [.t 69], (some (.t 68, false)), 0, 0⟩, ⟨.t 71, .p (.fa 8), [.t 70], (some (.t 68, false)), 0, 0⟩, ⟨.t 72, .r (.load false 1), [.t 71], (some (.t 68, false)), 0, 0⟩, ⟨.t 73, .p (.mkf (.func 255) 0), [.l 11], (some (.t 68, false)), 0, 0⟩, ⟨.t 74, .call 254, [.t 72, .t 73], (some (.t 68, false)), 0, 1⟩, ⟨.t 75, .p (.pick), [.t 68, .c (.bool true), .t 74], (some (.t 54, true)), 1, 1⟩, ⟨.t 76, .p (.pick), [.t 54, .t 75, .c (.bool false)], (some (.t 49, false)), 1, 1⟩, ⟨.t 77, .p (.pick), [.t 49, .c (.bool true), .t 76], none, 1, 1⟩, ⟨.l 44, .p (.mv), [.t 77], none, 1, 1⟩])
 (.cond (.l 44) (.regD [⟨.t 78, .p (.mv), [.l 0], none, 0, 0⟩, ⟨.t 79, .p (.nilc), [.t 78], none, 0, 0⟩, ⟨.t 80, .p (.fa 1), [.t 79], none, 0, 0⟩, ⟨.t 81, .r (.load false 1), [.t 80], none, 0, 0⟩, ⟨.t 82, .r (.load false 1), [.l 11], none, 0, 0⟩, ⟨.t 83, .p (.ixsl 3), [.t 81, .t 82], none, 0, 0⟩, ⟨.t 84, .p (.mv), [.l 9], none, 0, 0⟩, ⟨.t 85, .call 175, [.t 83, .t 84], none, 0, 1⟩])
 (.seq (.reg [⟨.t 87, .r (.load false 1), [.l 11], none, 0, 0⟩, ⟨.t 88, .p (.mv), [.l 1], none, 0, 0⟩, ⟨.t 89, .p (.bin .leq), [.t 87, .t 88], none, 0, 0⟩, ⟨.l 86, .p (.mv), [.t 89], none, 0, 0⟩])
 (.cond (.l 86) (.seq (.reg [⟨.t 90, .p (.mv), [.l 0], none, 0, 0⟩, ⟨.t 91, .p (.mv), [.l 2], none, 0, 0⟩, ⟨.t 92, .r (.load false 1), [.l 11], none, 0, 0⟩, ⟨.t 93, .call 256, [.t 90, .t 91, .t 92], none, 0, 0⟩, ⟨.l 12, .p (.mv), [.t 93], none, 0, 0⟩])
 (.seq (.reg [⟨.t 94, .p (.mv), [.l 12], none, 0, 0⟩, ⟨.l 95, .p (.bin .neq), [.t 94, .c (.int .i64 0)], none, 0, 0⟩])
 (.cond (.l 95) (.seq (.reg [⟨.t 96, .p (.mv), [.l 12], none, 0, 0⟩, ⟨.l 6, .p (.mv), [.t 96], none, 0, 0⟩])
 .ret)
 .skip)))
 .skip)))))))
 (.reg [⟨.t 97, .p (.bin .add), [.l 40, .c (.int .i64 1)], none, 0, 0⟩, ⟨.l 40, .p (.mv), [.t 97], none, 0, 0⟩])))))))
 (.seq (.seq (.reg [⟨.t 98, .p (.mv), [.l 2], none, 0, 0⟩, ⟨.t 99, .p (.nilc), [.t 98], none, 0, 0⟩, ⟨.t 100, .p (.fa 3), [.t 99], none, 0, 0⟩, ⟨.t 101, .r (.load false 1), [.t 100], none, 0, 0⟩, ⟨.t 102, .p (.leng .sl), [.t 101], none, 0, 0⟩, ⟨.l 13, .p (.mv), [.t 102], none, 0, 0⟩])
 (.seq (.reg [⟨.t 103, .p (.mv), [.l 13], none, 0, 0⟩, ⟨.t 104, .p (.bin .gtr), [.t 103, .c (.int .i64 0)], none, 0, 0⟩, ⟨.t 105, .p (.mv), [.t 104], none, 0, 0⟩, ⟨.t 106, .p (.mv), [.l 7], (some (.t 105, true)), 0, 0⟩, ⟨.t 107, .p (.nilc), [.t 106], (some (.t 105, true)), 0, 0⟩, ⟨.t 108, .p (.fa 0), [.t 107], (some (.t 105, true)), 0, 0⟩, ⟨.t 109, .r (.load false 1), [.t 108], (some (.t 105, true)), 0, 0⟩, ⟨.t 110, .call 251, [.t 109], (some (.t 105, true)), 0, 0⟩, ⟨.l 111, .p (.pick), [.t 105, .t 110, .c (.bool false)], none, 0, 0⟩])
 (.cond (.l 111) (.regD [⟨.t 112, .p (.mv), [.l 0], none, 0, 1⟩, ⟨.t 113, .p (.nilc), [.t 112], none, 0, 1⟩, ⟨.t 114, .p (.fa 1), [.t 113], none, 0, 1⟩, ⟨.t 115, .r (.load false 1), [.t 114], none, 0, 1⟩, ⟨.t 116, .p (.mv), [.l 2], none, 0, 1⟩, ⟨.t 117, .p (.nilc), [.t 116], none, 0, 1⟩, ⟨.t 118, .p (.fa 3), [.t 117], none, 0, 1⟩, ⟨.t 119, .r (.load false 1), [.t 118], none, 0, 1⟩, ⟨.t 120, .p (.mv), [.l 13], none, 0, 1⟩, ⟨.t 121, .p (.bin .sub), [.t 120, .c (.int .i64 1)], none, 0, 1⟩, ⟨.t 122, .p (.ixsl 1), [.t 119, .t 121], none, 0, 1⟩, ⟨.t 123, .r (.load false 1), [.t 122], none, 0, 1⟩, ⟨.t 124, .p (.ixsl 3), [.t 115, .t 123], none, 0, 1⟩, ⟨.t 125, .p (.mv), [.l 2], none, 0, 1⟩, ⟨.t 126, .p (.nilc), [.t 125], none, 0, 1⟩, ⟨.t 127, .p (.fa 0), [.t 126], none, 0, 1⟩, ⟨.t 128, .r (.load false 1), [.t 127], none, 0, 1⟩, ⟨.t 130, .p (.mv), [.l 2], none, 0, 1⟩, ⟨.t 131, .p (.nilc), [.t 130], none, 0, 1⟩, ⟨.t 132, .p (.fa 2), [.t 131], none, 0, 1⟩, ⟨.t 133, .r (.load false 1), [.t 132], none, 0, 1⟩, ⟨.t 134, .p (.mv), [.l 2], none, 0, 1⟩, ⟨.t 135, .p (.nilc), [.t 134], none, 0, 1⟩, ⟨.t 136, .p (.fa 3), [.t 135], none, 0, 1⟩, ⟨.t 137, .r (.load false 1), [.t 136], none, 0, 1⟩, ⟨.t 138, .p (.mv), [.l 13], none, 0, 1⟩, ⟨.t 139, .p (.bin .sub), [.t 138, .c (.int .i64 1)], none, 0, 1⟩, ⟨.t 140, .p (.slc (.sl 1) false true false), [.t 137, .t 139], none, 0, 1⟩, ⟨.t 129, .call 242, [.c (.int .i64 2)], none, 0, 1⟩, ⟨.t 141, .p (.build [(.int .i64 0), .nils, .nils, .nils, (.bool false), (.int .i64 0), (.int .i64 0)] [(0, 1), (1, 1), (2, 1), (3, 1)]), [.t 128, .t 129, .t 133, .t 140], none, 1, 1⟩, ⟨.t 142, .a (.box), [.t 141], none, 1, 1⟩, ⟨.t 143, .call 175, [.t 124, .t 142], none, 1, 2⟩])
 .skip)))
 (.seq (.seq (.reg [⟨.t 144, .p (.mv), [.l 7], none, 0, 0⟩, ⟨.t 145, .p (.nilc), [.t 144], none, 0, 0⟩, ⟨.t 146, .p (.fa 0), [.t 145], none, 0, 0⟩, ⟨.t 147, .r (.load false 1), [.t 146], none, 0, 0⟩, ⟨.t 148, .call 257, [.t 147], none, 0, 0⟩, ⟨.l 149, .p (.un .not), [.t 148], none, 0, 0⟩])
 (.cond (.l 149) (.seq (.reg [⟨.l 6, .p (.mv), [.c (.int .i64 0)], none, 0, 0⟩])
 .ret)
 .skip))
 (.seq (.seq (.reg [⟨.t 150, .p (.mv), [.l 1], none, 0, 0⟩, ⟨.t 151, .p (.bin .add), [.t 150, .c (.int .i64 1)], none, 0, 0⟩, ⟨.t 152, .p (.mv), [.l 0], none, 0, 0⟩, ⟨.t 153, .p (.nilc), [.t 152], none, 0, 0⟩, ⟨.t 154, .p (.fa 0), [.t 153], none, 0, 0⟩, ⟨.t 155, .r (.load false 1), [.t 154], none, 0, 0⟩, ⟨.t 156, .p (.nilc), [.t 155], none, 0, 0⟩, ⟨.t 157, .p (.fa 5), [.t 156], none, 0, 0⟩, ⟨.t 158, .r (.load false 1), [.t 157], none, 0, 0⟩, ⟨.t 159, .p (.leng .sl), [.t 158], none, 0, 0⟩, ⟨.l 160, .p (.bin .eql), [.t 151, .t 159], none, 0, 0⟩])
 (.cond (.l 160) (.seq (.reg [⟨.l 6, .p (.mv), [.c (.int .i64 185)], none, 0, 0⟩])
 .ret)
 .skip))
 (.seq (.reg [⟨.t 161, .p (.mv), [.l 0], none, 0, 0⟩, ⟨.t 162, .p (.nilc), [.t 161], none, 0, 0⟩, ⟨.t 163, .p (.fa 1), [.t 162], none, 0, 0⟩, ⟨.t 164, .r (.load false 1), [.t 163], none, 0, 0⟩, ⟨.t 165, .p (.mv), [.l 1], none, 0, 0⟩, ⟨.t 166, .p (.bin .add), [.t 165, .c (.int .i64 1)], none, 0, 0⟩, ⟨.t 167, .p (.ixsl 3), [.t 164, .t 166], none, 0, 0⟩, ⟨.t 168, .p (.mv), [.l 8], none, 0, 0⟩, ⟨.t 169, .call 175, [.t 167, .t 168], none, 0, 0⟩])
 (.seq (.reg [⟨.l 6, .p (.mv), [.c (.int .i64 0)], none, 0, 0⟩])
 .ret))))))))),
 [.tmp (.l 6)]⟩
theorem cf178_ok : compF TP Tryz.f178 = some cf178 := by kernel_rfl
def cf179 : CF := ⟨3, (.seq (.reg [⟨.l 4, .p (.mv), [.c .nils], none, 0, 0⟩, ⟨.l 5, .p (.mv), [.c (.int .i64 0)], none, 0, 0⟩])
 (.seq (.regD [⟨.t 6, .r (.load false 1), [.l 1], none, 0, 0⟩, ⟨.t 7, .p (.nilc), [.t 6], none, 0, 0⟩, ⟨.t 8, .p (.fa 11), [.t 7], none, 0, 0⟩, ⟨.t 9, .r (.load false 1), [.t 8], none, 0, 0⟩, ⟨.t 10, .r (.load false 1), [.l 2], none, 0, 0⟩, ⟨.t 11, .p (.mv), [.l 0], none, 0, 0⟩, ⟨.t 12, .call 180, [.t 9, .t 10, .t 11], none, 0, 1⟩, ⟨.t 13, .p (.ext 0), [.t 12], none, 1, 1⟩, ⟨.t 14, .p (.ext 1), [.t 12], none, 1, 1⟩, ⟨.l 4, .p (.mv), [.t 13], none, 1, 1⟩, ⟨.l 5, .p (.mv), [.t 14], none, 1, 1⟩])
 .ret)),
 [.tmp (.l 4), .tmp (.l 5)]⟩
theorem cf179_ok : compF TP Tryz.f179 = some cf179 := by kernel_rfl
def cf180 : CF := ⟨3, (.seq (.reg [⟨.l 6, .p (.mv), [.c .nils], none, 0, 0⟩, ⟨.l 7, .p (.mv), [.c (.int .i64 0)], none, 0, 0⟩])
 (.seq (.block 0 (.seq (.reg [⟨.t 9, .p (.mv), [.l 0], none, 0, 0⟩, ⟨.t 10, .r (.eq (.one .p) false), [.t 9, .c .nilp], none, 0, 0⟩, ⟨.t 11, .p (.mv), [.t 10], none, 0, 0⟩, ⟨.t 12, .p (.mv), [.l 0], (some (.t 11, false)), 0, 0⟩, ⟨.t 13, .p (.nilc), [.t 12], (some (.t 11, false)), 0, 0⟩, ⟨.t 14, .p (.fa 0), [.t 13], (some (.t 11, false)), 0, 0⟩, ⟨.t 15, .r (.load false 1), [.t 14], (some (.t 11, false)), 0, 0⟩, ⟨.t 16, .r (.eq (.one .p) false), [.t 15, .c .nilp], (some (.t 11, false)), 0, 0⟩, ⟨.t 17, .p (.pick), [.t 11, .c (.bool true), .t 16], none, 0, 0⟩, ⟨.l 8, .p (.mv), [.t 17], none, 0, 0⟩])
 (.cond (.l 8) (.seq (.reg [⟨.l 6, .p (.mv), [.c .nils], none, 0, 0⟩, ⟨.l 7, .p (.mv), [.c (.int .i64 1)], none, 0, 0⟩])
 .ret)
 (.seq (.reg [⟨.t 19, .p (.mv), [.l 1], none, 0, 0⟩, ⟨.t 20, .p (.bin .lss), [.t 19, .c (.int .i64 0)], none, 0, 0⟩, ⟨.t 21, .p (.mv), [.t 20], none, 0, 0⟩, ⟨.t 22, .p (.mv), [.l 1], (some (.t 21, false)), 0, 0⟩, ⟨.t 23, .p (.bin .gtr), [.t 22, .c (.int .i64 1048576)], (some (.t 21, false)), 0, 0⟩, ⟨.t 24, .p (.pick), [.t 21, .c (.bool true), .t 23], none, 0, 0⟩, ⟨.l 18, .p (.mv), [.t 24], none, 0, 0⟩])
 (.cond (.l 18) (.seq (.reg [⟨.l 6, .p (.mv), [.c .nils], none, 0, 0⟩, ⟨.l 7, .p (.mv), [.c (.int .i64 2)], none, 0, 0⟩])
 .ret)
 (.seq (.reg [⟨.t 26, .p (.mv), [.l 0], none, 0, 0⟩, ⟨.t 27, .p (.mv), [.l 2], none, 0, 0⟩, ⟨.t 28, .call 129, [.t 26, .t 27], none, 0, 0⟩, ⟨.t 29, .p (.un .not), [.t 28], none, 0, 0⟩, ⟨.l 25, .p (.mv), [.t 29], none, 0, 0⟩])
 (.cond (.l 25) (.seq (.reg [⟨.l 6, .p (.mv), [.c .nils], none, 0, 0⟩, ⟨.l 7, .p (.mv), [.c (.int .i64 6)], none, 0, 0⟩])
 .ret)
 (.seq (.reg [⟨.t 31, .p (.mv), [.l 0], none, 0, 0⟩, ⟨.t 32, .p (.nilc), [.t 31], none, 0, 0⟩, ⟨.t 33, .p (.fa 1), [.t 32], none, 0, 0⟩, ⟨.t 34, .p (.fa 2), [.t 33], none, 0, 0⟩, ⟨.t 35, .r (.load false 1), [.t 34], none, 0, 0⟩, ⟨.t 36, .p (.un .not), [.t 35], none, 0, 0⟩, ⟨.t 37, .p (.mv), [.t 36], none, 0, 0⟩, ⟨.t 38, .p (.mv), [.l 0], (some (.t 37, true)), 0, 0⟩, ⟨.t 39, .p (.nilc), [.t 38], (some (.t 37, true)), 0, 0⟩, ⟨.t 40, .p (.fa 0), [.t 39], (some (.t 37, true)), 0, 0⟩, ⟨.t 41, .r (.load false 1), [.t 40], (some (.t 37, true)), 0, 0⟩, ⟨.t 42, .call 182, [.t 41], (some (.t 37, true)), 0, 0⟩, ⟨.t 43, .p (.mv), [.l 1], (some (.t 37, true)), 0, 0⟩, ⟨.t 44, .p (.bin .geq), [.t 42, .t 43], (some (.t 37, true)), 0, 0⟩, ⟨.t 45, .p (.pick), [.t 37, .t 44, .c (.bool false)], none, 0, 0⟩, ⟨.l 30, .p (.mv), [.t 45], none, 0, 0⟩])
 (.cond (.l 30) (.seq (.reg [⟨.t 46, .p (.mv), [.l 2], none, 0, 0⟩, ⟨.t 47, .call 216, [.t 46], none, 0, 0⟩, ⟨.l 6, .p (.mv), [.t 47], none, 0, 0⟩, ⟨.l 7, .p (.mv), [.c (.int .i64 0)], none, 0, 0⟩])
 .ret)
 .skip)))))))))
 (.seq (.regD [⟨.t 48, .p (.mv), [.l 0], none, 0, 0⟩, ⟨.t 49, .p (.mv), [.l 0], none, 0, 0⟩, ⟨.t 50, .p (.nilc), [.t 49], none, 0, 0⟩, ⟨.t 51, .p (.fa 6), [.t 50], none, 0, 0⟩, ⟨.t 52, .r (.load false 1), [.t 51], none, 0, 0⟩, ⟨.t 53, .p (.mv), [.l 0], none, 0, 0⟩, ⟨.t 54, .p (.nilc), [.t 53], none, 0, 0⟩, ⟨.t 55, .p (.fa 1), [.t 54], none, 0, 0⟩, ⟨.t 56, .p (.fa 1), [.t 55], none, 0, 0⟩, ⟨.t 57, .r (.load false 1), [.t 56], none, 0, 0⟩, ⟨.t 58, .p (.bin .geq), [.t 52, .t 57], none, 0, 0⟩, ⟨.t 59, .p (.mv), [.l 1], none, 0, 0⟩, ⟨.t 60, .p (.mv), [.l 2], none, 0, 0⟩, ⟨.t 61, .call 130, [.t 48, .t 58, .t 59, .t 60], none, 0, 1⟩, ⟨.t 62, .p (.ext 0), [.t 61], none, 1, 1⟩, ⟨.t 63, .p (.ext 1), [.t 61], none, 1, 1⟩, ⟨.l 6, .p (.mv), [.t 62], none, 1, 1⟩, ⟨.l 7, .p (.mv), [.t 63], none, 1, 1⟩])
 .ret))),
 [.tmp (.l 6), .tmp (.l 7)]⟩
theorem cf180_ok : compF TP Tryz.f180 = some cf180 := by kernel_rfl
def cf181 : CF := ⟨1, (.seq (.reg [⟨.l 1, .a (.box), [.l 0], none, 0, 0⟩, ⟨.l 2, .p (.mv), [.c (.int .i64 0)], none, 0, 0⟩])
 (.seq (.reg [⟨.l 3, .p (.mv), [.c (.int .i64 0)], none, 0, 0⟩])
 (.seq (.seq (.reg [⟨.t 8, .p (.fa 0), [.l 1], none, 0, 0⟩, ⟨.l 9, .r (.load false 1), [.t 8], none, 0, 0⟩])
 (.block 0 (.seq (.reg [⟨.t 11, .p (.bin .eql), [.l 9, .c (.int .i64 1)], none, 0, 0⟩, ⟨.l 10, .p (.mv), [.t 11], none, 0, 0⟩])
 (.cond (.l 10) (.seq (.reg [⟨.t 13, .p (.fa 1), [.l 1], none, 0, 0⟩, ⟨.t 14, .r (.load false 1), [.t 13], none, 0, 0⟩, ⟨.t 15, .call 258, [.t 14], none, 0, 0⟩, ⟨.t 12, .p (.mv), [.t 15], none, 0, 0⟩, ⟨.t 16, .p (.ext 0), [.t 12], none, 0, 0⟩, ⟨.t 17, .p (.ext 1), [.t 12], none, 0, 0⟩, ⟨.t 4, .p (.mv), [.t 16], none, 0, 0⟩, ⟨.l 5, .p (.mv), [.t 17], none, 0, 0⟩])
 (.seq (.reg [⟨.t 18, .p (.mv), [.l 5], none, 0, 0⟩, ⟨.l 19, .p (.un .not), [.t 18], none, 0, 0⟩])
 (.cond (.l 19) (.reg [⟨.l 3, .p (.mv), [.c (.int .i64 2)], none, 0, 0⟩])
 .skip)))
 (.seq (.reg [⟨.t 21, .p (.bin .eql), [.l 9, .c (.int .i64 9)], none, 0, 0⟩, ⟨.l 20, .p (.mv), [.t 21], none, 0, 0⟩])
 (.cond (.l 20) (.reg [⟨.t 22, .p (.fa 6), [.l 1], none, 0, 0⟩, ⟨.t 23, .r (.load false 1), [.t 22], none, 0, 0⟩, ⟨.t 24, .p (.leng .sl), [.t 23], none, 0, 0⟩, ⟨.t 25, .p (.bin .sub), [.t 24, .c (.int .i64 1)], none, 0, 0⟩, ⟨.t 26, .p (.bin .mul), [.c (.int .i64 2), .t 25], none, 0, 0⟩, ⟨.l 3, .p (.mv), [.t 26], none, 0, 0⟩])
 (.seq (.reg [⟨.t 28, .p (.bin .eql), [.l 9, .c (.int .i64 7)], none, 0, 0⟩, ⟨.l 27, .p (.mv), [.t 28], none, 0, 0⟩])
 (.cond (.l 27) (.reg [⟨.t 29, .p (.fa 6), [.l 1], none, 0, 0⟩, ⟨.t 30, .r (.load false 1), [.t 29], none, 0, 0⟩, ⟨.t 31, .p (.leng .sl), [.t 30], none, 0, 0⟩, ⟨.t 32, .p (.bin .add), [.c (.int .i64 1), .t 31], none, 0, 0⟩, ⟨.l 3, .p (.mv), [.t 32], none, 0, 0⟩])
 (.seq (.reg [⟨.t 34, .p (.bin .eql), [.l 9, .c (.int .i64 4)], none, 0, 0⟩, ⟨.l 33, .p (.mv), [.t 34], none, 0, 0⟩])
 (.cond (.l 33) (.reg [⟨.t 35, .p (.fa 6), [.l 1], none, 0, 0⟩, ⟨.t 36, .r (.load false 1), [.t 35], none, 0, 0⟩, ⟨.t 37, .p (.leng .sl), [.t 36], none, 0, 0⟩, ⟨.t 38, .p (.bin .add), [.c (.int .i64 5), .t 37], none, 0, 0⟩, ⟨.l 3, .p (.mv), [.t 38], none, 0, 0⟩])
 (.seq (.seq (.reg [⟨.t 40, .p (.bin .eql), [.l 9, .c (.int .i64 5)], none, 0, 0⟩, ⟨.l 39, .p (.mv), [.t 40], none, 0, 0⟩])
 (.cond (.l 39) .skip
 (.seq (.reg [⟨.t 41, .p (.bin .eql), [.l 9, .c (.int .i64 6)], none, 0, 0⟩, ⟨.l 39, .p (.mv), [.t 41], none, 0, 0⟩])
 (.cond (.l 39) .skip
 (.reg [⟨.t 42, .p (.bin .eql), [.l 9, .c (.int .i64 3)], none, 0, 0⟩, ⟨.l 39, .p (.mv), [.t 42], none, 0, 0⟩])))))
 (.cond (.l 39) (.reg [⟨.l 3, .p (.mv), [.c (.int .i64 4)], none, 0, 0⟩])
 (.seq (.reg [⟨.t 44, .p (.bin .eql), [.l 9, .c (.int .i64 10)], none, 0, 0⟩, ⟨.l 43, .p (.mv), [.t 44], none, 0, 0⟩])
 (.cond (.l 43) (.reg [⟨.t 45, .p (.fa 8), [.l 1], none, 0, 0⟩, ⟨.t 46, .r (.load false 1), [.t 45], none, 0, 0⟩, ⟨.t 47, .call 222, [.t 46], none, 0, 0⟩, ⟨.l 3, .p (.mv), [.t 47], none, 0, 0⟩])
 .skip))))))))))))))
 (.seq (.seq (.reg [⟨.t 48, .p (.fa 6), [.l 1], none, 0, 0⟩, ⟨.l 49, .r (.load false 1), [.t 48], none, 0, 0⟩, ⟨.l 50, .p (.leng .sl), [.l 49], none, 0, 0⟩, ⟨.l 51, .p (.mv), [.c (.int .i64 0)], none, 0, 0⟩])
 (.block 1 (.loop (.seq (.reg [⟨.l 52, .p (.bin .lss), [.l 51, .l 50], none, 0, 0⟩])
 (.seq (.cond (.l 52) .skip
 (.exit 1))
 (.seq (.block 2 (.seq (.reg [⟨.t 53, .p (.ixsl 9), [.l 49, .l 51], none, 0, 0⟩, ⟨.t 54, .r (.load true 9), [.t 53], none, 0, 0⟩, ⟨.l 7, .a (.alloc [(.int .i64 0), (.int .i64 0), (.int .i64 0), (.str 0 0), (.str 0 0), (.int .i64 0), .nils, (.str 0 0), (.int .i64 0)]), [], none, 0, 0⟩, ⟨.no, .e (.store 9), [.l 7, .t 54], none, 0, 0⟩])
 (.reg [⟨.t 55, .p (.mv), [.l 3], none, 0, 0⟩, ⟨.t 56, .r (.load true 9), [.l 7], none, 0, 0⟩, ⟨.t 57, .call 181, [.t 56], none, 0, 0⟩, ⟨.t 58, .p (.bin .add), [.t 55, .t 57], none, 0, 0⟩, ⟨.l 3, .p (.mv), [.t 58], none, 0, 0⟩])))
 (.reg [⟨.t 59, .p (.bin .add), [.l 51, .c (.int .i64 1)], none, 0, 0⟩, ⟨.l 51, .p (.mv), [.t 59], none, 0, 0⟩])))))))
 (.seq (.reg [⟨.t 60, .p (.mv), [.l 3], none, 0, 0⟩, ⟨.l 2, .p (.mv), [.t 60], none, 0, 0⟩])
 .ret))))),
 [.tmp (.l 2)]⟩
theorem cf181_ok : compF TP Tryz.f181 = some cf181 := by kernel_rfl
def cf182 : CF := ⟨1, (.seq (.reg [⟨.l 2, .p (.mv), [.c (.int .i64 0)], none, 0, 0⟩])
 (.seq (.seq (.reg [⟨.t 3, .p (.mv), [.l 0], none, 0, 0⟩, ⟨.t 4, .call 104, [.t 3], none, 0, 0⟩, ⟨.l 5, .p (.un .not), [.t 4], none, 0, 0⟩])
 (.cond (.l 5) (.seq (.reg [⟨.l 2, .p (.mv), [.c (.int .i64 0)], none, 0, 0⟩])
 .ret)
 .skip))
 (.seq (.regD [⟨.t 6, .p (.mv), [.l 0], none, 0, 0⟩, ⟨.t 7, .p (.nilc), [.t 6], none, 0, 0⟩, ⟨.t 8, .p (.fa 5), [.t 7], none, 0, 0⟩, ⟨.t 9, .r (.load false 1), [.t 8], none, 0, 0⟩, ⟨.t 10, .p (.mv), [.l 0], none, 0, 0⟩, ⟨.t 11, .p (.nilc), [.t 10], none, 0, 0⟩, ⟨.t 12, .p (.fa 0), [.t 11], none, 0, 0⟩, ⟨.t 13, .p (.fa 0), [.t 12], none, 0, 0⟩, ⟨.t 14, .p (.fa 0), [.t 13], none, 0, 0⟩, ⟨.t 15, .r (.load false 1), [.t 14], none, 0, 0⟩, ⟨.t 16, .p (.leng .sl), [.t 15], none, 0, 0⟩, ⟨.t 17, .p (.bin .sub), [.t 9, .t 16], none, 0, 0⟩, ⟨.l 2, .p (.mv), [.t 17], none, 0, 0⟩])
 .ret))),
 [.tmp (.l 2)]⟩
theorem cf182_ok : compF TP Tryz.f182 = some cf182 := by kernel_rfl
end
end Ev
end Go.Proofs.YtbfkbabolhhbaaaGreatDoor
