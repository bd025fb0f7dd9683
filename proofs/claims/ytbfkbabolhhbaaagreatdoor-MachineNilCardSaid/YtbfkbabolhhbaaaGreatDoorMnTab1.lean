/-
  The functions of the program, compiled (printed by a program of ours; each is held against the program's own text below).
-/
import Derived.Test.YtbfkbabolhhbaaaGreatDoorEvMemo
import Derived.Test.YtbfkbabolhhbaaaGreatDoorProg
import Derived.KernelRfl
namespace Go.Proofs.YtbfkbabolhhbaaaGreatDoor
namespace Ev
noncomputable section
def tbl : List V := [.int .i64 0, .int .i64 0, .int .i64 0, .int .i64 3, .int .i64 1, .int .i64 1, .int .i64 131, .int .i64 0, .int .i64 255, .int .i64 131, .int .i64 2, .int .i64 2, .int .i64 135, .int .i64 0, .int .i64 200, .int .i64 7, .int .i64 1, .int .i64 1, .int .i64 3, .int .i64 1, .int .i64 1, .int .i64 3, .int .i64 1, .int .i64 1, .int .i64 64, .int .i64 0, .int .i64 0, .int .i64 70, .int .i64 1, .int .i64 1, .int .i64 66, .int .i64 1, .int .i64 1, .int .i64 66, .int .i64 2, .int .i64 2, .int .i64 82, .int .i64 1, .int .i64 1, .int .i64 203, .int .i64 0, .int .i64 255, .int .i64 139, .int .i64 0, .int .i64 3, .int .i64 12, .int .i64 0, .int .i64 0, .int .i64 4, .int .i64 0, .int .i64 0, .int .i64 4, .int .i64 0, .int .i64 0, .int .i64 6, .int .i64 2, .int .i64 2, .int .i64 6, .int .i64 2, .int .i64 2, .int .i64 6, .int .i64 1, .int .i64 1, .int .i64 6, .int .i64 1, .int .i64 1, .int .i64 2, .int .i64 2, .int .i64 3, .int .i64 2, .int .i64 2, .int .i64 3, .int .i64 4, .int .i64 0, .int .i64 0, .int .i64 0, .int .i64 0, .int .i64 0, .int .i64 0, .int .i64 0, .int .i64 0, .int .i64 2, .int .i64 2, .int .i64 2, .int .i64 64, .int .i64 0, .int .i64 0, .int .i64 0, .int .i64 0, .int .i64 0, .int .i64 66, .int .i64 1, .int .i64 1, .int .i64 199, .int .i64 1, .int .i64 1, .int .i64 199, .int .i64 1, .int .i64 1, .int .i64 197, .int .i64 0, .int .i64 0, .int .i64 64, .int .i64 0, .int .i64 0, .int .i64 161, .int .i64 0, .int .i64 0, .int .i64 2, .int .i64 0, .int .i64 1, .int .i64 64, .int .i64 0, .int .i64 0, .int .i64 0, .int .i64 0, .int .i64 0, .int .i64 64, .int .i64 0, .int .i64 0, .int .i64 64, .int .i64 0, .int .i64 0]
def tbS : List V := [.int .u8 0, .int .u8 0, .int .u8 0, .int .u8 0, .int .u8 0, .int .u8 0, .int .u8 0, .int .u8 0, .int .u8 0, .int .u8 1, .int .u8 1, .int .u8 1, .int .u8 1, .int .u8 1, .int .u8 0, .int .u8 0, .int .u8 0, .int .u8 0, .int .u8 0, .int .u8 0, .int .u8 0, .int .u8 0, .int .u8 0, .int .u8 0, .int .u8 0, .int .u8 0, .int .u8 0, .int .u8 0, .int .u8 0, .int .u8 0, .int .u8 0, .int .u8 0, .int .u8 1, .int .u8 0, .int .u8 0, .int .u8 0, .int .u8 0, .int .u8 0, .int .u8 0, .int .u8 0, .int .u8 0, .int .u8 0, .int .u8 0, .int .u8 0, .int .u8 0, .int .u8 0, .int .u8 0, .int .u8 0, .int .u8 0, .int .u8 0, .int .u8 0, .int .u8 0, .int .u8 0, .int .u8 0, .int .u8 0, .int .u8 0, .int .u8 0, .int .u8 0, .int .u8 0, .int .u8 0, .int .u8 0, .int .u8 0, .int .u8 0, .int .u8 0, .int .u8 0, .int .u8 0, .int .u8 0, .int .u8 0, .int .u8 0, .int .u8 0, .int .u8 0, .int .u8 0, .int .u8 0, .int .u8 0, .int .u8 0, .int .u8 0, .int .u8 0, .int .u8 0, .int .u8 0, .int .u8 0, .int .u8 0, .int .u8 0, .int .u8 0, .int .u8 0, .int .u8 0, .int .u8 0, .int .u8 0, .int .u8 0, .int .u8 0, .int .u8 0, .int .u8 0, .int .u8 0, .int .u8 0, .int .u8 0, .int .u8 0, .int .u8 0, .int .u8 0, .int .u8 0, .int .u8 0, .int .u8 0, .int .u8 0, .int .u8 0, .int .u8 0, .int .u8 0, .int .u8 0, .int .u8 0, .int .u8 0, .int .u8 0, .int .u8 0, .int .u8 0, .int .u8 0, .int .u8 0, .int .u8 0, .int .u8 0, .int .u8 0, .int .u8 0, .int .u8 0, .int .u8 0, .int .u8 0, .int .u8 0, .int .u8 0, .int .u8 0, .int .u8 0, .int .u8 0, .int .u8 0, .int .u8 0, .int .u8 0, .int .u8 0, .int .u8 0, .int .u8 0, .int .u8 0, .int .u8 0, .int .u8 0, .int .u8 0, .int .u8 0, .int .u8 0, .int .u8 0, .int .u8 0, .int .u8 0, .int .u8 0, .int .u8 0, .int .u8 0, .int .u8 0, .int .u8 0, .int .u8 0, .int .u8 0, .int .u8 0, .int .u8 0, .int .u8 0, .int .u8 0, .int .u8 0, .int .u8 0, .int .u8 0, .int .u8 0, .int .u8 0, .int .u8 0, .int .u8 0, .int .u8 0, .int .u8 0, .int .u8 0, .int .u8 0, .int .u8 0, .int .u8 0, .int .u8 0, .int .u8 0, .int .u8 0, .int .u8 0, .int .u8 0, .int .u8 0, .int .u8 0, .int .u8 0, .int .u8 0, .int .u8 0, .int .u8 0, .int .u8 0, .int .u8 0, .int .u8 0, .int .u8 0, .int .u8 0, .int .u8 0, .int .u8 0, .int .u8 0, .int .u8 0, .int .u8 0, .int .u8 0, .int .u8 0, .int .u8 0, .int .u8 0, .int .u8 0, .int .u8 0, .int .u8 0, .int .u8 0, .int .u8 0, .int .u8 0, .int .u8 0, .int .u8 0, .int .u8 0, .int .u8 0, .int .u8 0, .int .u8 0, .int .u8 0, .int .u8 0, .int .u8 0, .int .u8 0, .int .u8 0, .int .u8 0, .int .u8 0, .int .u8 0, .int .u8 0, .int .u8 0, .int .u8 0, .int .u8 0, .int .u8 0, .int .u8 0, .int .u8 0, .int .u8 0, .int .u8 0, .int .u8 0, .int .u8 0, .int .u8 0, .int .u8 0, .int .u8 0, .int .u8 0, .int .u8 0, .int .u8 0, .int .u8 0, .int .u8 0, .int .u8 0, .int .u8 0, .int .u8 0, .int .u8 0, .int .u8 0, .int .u8 0, .int .u8 0, .int .u8 0, .int .u8 0, .int .u8 0, .int .u8 0, .int .u8 0, .int .u8 0, .int .u8 0, .int .u8 0, .int .u8 0, .int .u8 0, .int .u8 0, .int .u8 0, .int .u8 0, .int .u8 0, .int .u8 0, .int .u8 0, .int .u8 0, .int .u8 0, .int .u8 0, .int .u8 0, .int .u8 0, .int .u8 0]
/-- The program's types; code.rows and strings.asciiSpace are pinned. -/
def TP : Ty := ⟨Tryz.prog.info?, Tryz.prog.underlying, fun t => !Tryz.prog.stoodInHeld t && !Tryz.prog.eqGuardType Tryz.prog.depth t, [(0, 0, 123, trOf tbl 0 .e), (1, 2, 256, trOf tbS 0 .e)]⟩
def cf3 : CF := ⟨2, (.seq (.reg [⟨.l 2, .a (.box), [.l 0], none, 0, 0⟩, ⟨.l 4, .p (.mv), [.c (.bool false)], none, 0, 0⟩])
 (.seq (.seq (.reg [⟨.t 14, .r (.load true 9), [.l 2], none, 0, 0⟩, ⟨.t 15, .a (.bslice [(.int .i64 0), (.int .i64 0), (.int .i64 0), (.str 0 0), (.str 0 0), (.int .i64 0), .nils, (.str 0 0), (.int .i64 0)] 1 9 [(0, 9)]), [.t 14], none, 0, 0⟩, ⟨.l 16, .call 4, [.t 15, .c (.int .i64 500)], none, 0, 0⟩])
 (.cond (.l 16) (.seq (.reg [⟨.t 17, .call 5, [], none, 0, 0⟩, ⟨.l 4, .p (.mv), [.t 17], none, 0, 0⟩])
 .ret)
 .skip))
 (.seq (.reg [⟨.t 18, .call 6, [], none, 0, 0⟩, ⟨.t 19, .call 7, [], none, 0, 0⟩, ⟨.t 20, .call 8, [], none, 0, 0⟩, ⟨.t 21, .p (.build [(.int .i64 0), (.int .i64 0), (.bool false)] [(0, 1)]), [.c (.int .i64 10)], none, 0, 0⟩, ⟨.l 8, .a (.alloc [(.int .i64 0), (.int .i64 0), (.bool false)]), [], none, 0, 0⟩, ⟨.l 5, .p (.mv), [.t 18], none, 0, 0⟩, ⟨.l 6, .p (.mv), [.t 19], none, 0, 0⟩, ⟨.l 7, .p (.mv), [.t 20], none, 0, 0⟩, ⟨.no, .e (.store 3), [.l 8, .t 21], none, 0, 0⟩])
 (.seq (.reg [⟨.t 22, .p (.fa 0), [.l 2], none, 0, 0⟩, ⟨.t 23, .r (.load false 1), [.t 22], none, 0, 0⟩, ⟨.t 24, .p (.bin .eql), [.t 23, .c (.int .i64 6)], none, 0, 0⟩, ⟨.t 25, .p (.mv), [.t 24], none, 0, 0⟩, ⟨.t 26, .r (.load true 9), [.l 2], (some (.t 25, true)), 0, 0⟩, ⟨.t 27, .call 9, [.t 26], (some (.t 25, true)), 0, 0⟩, ⟨.t 28, .p (.pick), [.t 25, .t 27, .c (.bool false)], none, 0, 0⟩, ⟨.l 9, .p (.mv), [.t 28], none, 0, 0⟩])
 (.seq (.seq (.regD [⟨.t 29, .r (.load true 9), [.l 2], none, 0, 0⟩, ⟨.t 30, .p (.mv), [.l 5], none, 0, 0⟩, ⟨.t 31, .p (.mv), [.l 6], none, 0, 0⟩, ⟨.t 32, .p (.mv), [.l 7], none, 0, 0⟩, ⟨.t 33, .r (.load true 3), [.l 8], none, 0, 0⟩, ⟨.t 36, .p (.mv), [.l 9], none, 0, 1⟩, ⟨.t 34, .call 10, [.t 29, .t 30, .t 31, .t 32, .t 33], none, 0, 1⟩, ⟨.t 35, .r (.eq (.one .p) true), [.t 34, .c .nilp], none, 1, 1⟩, ⟨.t 37, .p (.eqd .b true), [.t 35, .t 36], none, 1, 1⟩, ⟨.t 38, .p (.mv), [.t 37], none, 1, 1⟩, ⟨.t 40, .p (.mv), [.l 6], (some (.t 38, false)), 1, 2⟩, ⟨.t 41, .p (.mv), [.l 7], (some (.t 38, false)), 1, 2⟩, ⟨.t 42, .r (.load true 3), [.l 8], (some (.t 38, false)), 1, 2⟩, ⟨.t 39, .call 11, [], (some (.t 38, false)), 1, 2⟩, ⟨.t 43, .call 10, [.t 39, .c .nilp, .t 40, .t 41, .t 42], (some (.t 38, false)), 2, 3⟩, ⟨.t 44, .r (.eq (.one .p) true), [.t 43, .c .nilp], (some (.t 38, false)), 3, 3⟩, ⟨.t 45, .p (.pick), [.t 38, .c (.bool true), .t 44], none, 3, 3⟩, ⟨.t 46, .p (.mv), [.t 45], none, 3, 3⟩, ⟨.t 48, .p (.mv), [.l 5], (some (.t 46, false)), 3, 4⟩, ⟨.t 49, .p (.mv), [.l 7], (some (.t 46, false)), 3, 4⟩, ⟨.t 50, .r (.load true 3), [.l 8], (some (.t 46, false)), 3, 4⟩, ⟨.t 47, .call 11, [], (some (.t 46, false)), 3, 4⟩, ⟨.t 51, .call 10, [.t 47, .t 48, .c .nilp, .t 49, .t 50], (some (.t 46, false)), 4, 5⟩, ⟨.t 52, .r (.eq (.one .p) true), [.t 51, .c .nilp], (some (.t 46, false)), 5, 5⟩, ⟨.t 53, .p (.pick), [.t 46, .c (.bool true), .t 52], none, 5, 5⟩, ⟨.t 54, .p (.mv), [.t 53], none, 5, 5⟩, ⟨.t 56, .p (.mv), [.l 5], (some (.t 54, false)), 5, 6⟩, ⟨.t 57, .p (.mv), [.l 6], (some (.t 54, false)), 5, 6⟩, ⟨.t 58, .r (.load true 3), [.l 8], (some (.t 54, false)), 5, 6⟩, ⟨.t 55, .call 11, [], (some (.t 54, false)), 5, 6⟩, ⟨.t 59, .call 10, [.t 55, .t 56, .t 57, .c .nilp, .t 58], (some (.t 54, false)), 6, 7⟩, ⟨.t 60, .r (.eq (.one .p) true), [.t 59, .c .nilp], (some (.t 54, false)), 7, 7⟩, ⟨.t 61, .p (.pick), [.t 54, .c (.bool true), .t 60], none, 7, 7⟩, ⟨.t 62, .p (.mv), [.t 61], none, 7, 7⟩, ⟨.t 64, .p (.mv), [.l 5], (some (.t 62, false)), 7, 8⟩, ⟨.t 65, .p (.mv), [.l 6], (some (.t 62, false)), 7, 8⟩, ⟨.t 66, .p (.mv), [.l 7], (some (.t 62, false)), 7, 8⟩, ⟨.t 67, .p (.build [(.int .i64 0), (.int .i64 0), (.bool false)] []), [], (some (.t 62, false)), 7, 8⟩, ⟨.t 63, .call 11, [], (some (.t 62, false)), 7, 8⟩, ⟨.t 68, .call 10, [.t 63, .t 64, .t 65, .t 66, .t 67], (some (.t 62, false)), 8, 9⟩, ⟨.t 69, .r (.eq (.one .p) true), [.t 68, .c .nilp], (some (.t 62, false)), 9, 9⟩, ⟨.t 70, .p (.pick), [.t 62, .c (.bool true), .t 69], none, 9, 9⟩, ⟨.t 71, .p (.mv), [.t 70], none, 9, 9⟩, ⟨.t 73, .p (.mv), [.l 5], (some (.t 71, false)), 9, 10⟩, ⟨.t 74, .p (.mv), [.l 6], (some (.t 71, false)), 9, 10⟩, ⟨.t 75, .p (.mv), [.l 7], (some (.t 71, false)), 9, 10⟩, ⟨.t 76, .p (.build [(.int .i64 0), (.int .i64 0), (.bool false)] [(0, 1), (1, 1)]), [.c (.int .i64 1), .c (.int .i64 (-1))], (some (.t 71, false)), 9, 10⟩, ⟨.t 72, .call 11, [], (some (.t 71, false)), 9, 10⟩, ⟨.t 77, .call 10, [.t 72, .t 73, .t 74, .t 75, .t 76], (some (.t 71, false)), 10, 11⟩, ⟨.t 78, .r (.eq (.one .p) true), [.t 77, .c .nilp], (some (.t 71, false)), 11, 11⟩, ⟨.l 79, .p (.pick), [.t 71, .c (.bool true), .t 78], none, 11, 11⟩])
 (.cond (.l 79) (.seq (.reg [⟨.l 4, .p (.mv), [.c (.bool false)], none, 0, 0⟩])
 .ret)
 .skip))
 (.seq (.reg [⟨.l 10, .p (.mv), [.c .nilp], none, 0, 0⟩])
 (.seq (.reg [⟨.t 80, .p (.mv), [.l 10], none, 0, 0⟩, ⟨.t 81, .call 12, [.t 80], none, 0, 0⟩, ⟨.l 11, .a (.alloc [(.int .i64 0), (.str 0 0), (.int .i64 0), (.int .i64 0), (.int .i64 0), (.str 0 0), (.str 0 0), (.int .i64 0), .nils, (.str 0 0), (.int .i64 0), (.str 0 0), (.str 0 0), (.str 0 0), .nils, (.int .i64 0)]), [], none, 0, 0⟩, ⟨.no, .e (.store 16), [.l 11, .t 81], none, 0, 0⟩])
 (.seq (.reg [⟨.t 82, .p (.mv), [.l 10], none, 0, 0⟩, ⟨.t 83, .call 13, [.t 82], none, 0, 0⟩])
 (.seq (.reg [⟨.t 85, .call 15, [], none, 0, 0⟩, ⟨.t 86, .call 14, [.t 85], none, 0, 0⟩, ⟨.t 84, .p (.mv), [.t 86], none, 0, 0⟩, ⟨.t 87, .p (.ext 0), [.t 84], none, 0, 0⟩, ⟨.t 88, .p (.ext 1), [.t 84], none, 0, 0⟩, ⟨.l 12, .p (.mv), [.t 87], none, 0, 0⟩, ⟨.t 13, .p (.mv), [.t 88], none, 0, 0⟩])
 (.seq (.reg [⟨.t 89, .p (.mv), [.l 10], none, 0, 0⟩, ⟨.t 90, .call 16, [.t 89, .c (.str 1 109), .c (.str 1 102), .c .nils], none, 0, 0⟩, ⟨.t 91, .p (.bin .eql), [.t 90, .c (.int .i64 1)], none, 0, 0⟩, ⟨.t 92, .p (.mv), [.t 91], none, 0, 0⟩, ⟨.t 93, .p (.mv), [.l 10], (some (.t 92, true)), 0, 0⟩, ⟨.t 94, .r (.load true 9), [.l 2], (some (.t 92, true)), 0, 0⟩, ⟨.t 95, .call 17, [.t 93, .t 94, .c .nils], (some (.t 92, true)), 0, 0⟩, ⟨.t 96, .p (.bin .eql), [.t 95, .c (.int .i64 1)], (some (.t 92, true)), 0, 0⟩, ⟨.t 97, .p (.pick), [.t 92, .t 96, .c (.bool false)], none, 0, 0⟩, ⟨.t 98, .p (.mv), [.t 97], none, 0, 0⟩, ⟨.t 99, .p (.mv), [.l 10], (some (.t 98, true)), 0, 0⟩, ⟨.t 100, .p (.mv), [.l 1], (some (.t 98, true)), 0, 0⟩, ⟨.t 101, .call 18, [.t 99, .t 100], (some (.t 98, true)), 0, 0⟩, ⟨.t 102, .p (.bin .eql), [.t 101, .c (.int .i64 1)], (some (.t 98, true)), 0, 0⟩, ⟨.t 103, .p (.pick), [.t 98, .t 102, .c (.bool false)], none, 0, 0⟩, ⟨.t 104, .p (.mv), [.t 103], none, 0, 0⟩, ⟨.t 105, .p (.fa 0), [.l 11], (some (.t 104, true)), 0, 0⟩, ⟨.t 106, .r (.load false 1), [.t 105], (some (.t 104, true)), 0, 0⟩, ⟨.t 107, .p (.bin .eql), [.t 106, .c (.int .i64 0)], (some (.t 104, true)), 0, 0⟩, ⟨.t 108, .p (.pick), [.t 104, .t 107, .c (.bool false)], none, 0, 0⟩, ⟨.t 109, .p (.mv), [.t 108], none, 0, 0⟩, ⟨.t 110, .p (.mv), [.l 10], (some (.t 109, true)), 0, 0⟩, ⟨.t 111, .r (.load true 9), [.l 2], (some (.t 109, true)), 0, 0⟩, ⟨.t 112, .call 19, [.t 110, .t 111], (some (.t 109, true)), 0, 0⟩, ⟨.t 113, .p (.bin .eql), [.t 112, .c (.int .i64 1)], (some (.t 109, true)), 0, 0⟩, ⟨.t 114, .p (.pick), [.t 109, .t 113, .c (.bool false)], none, 0, 0⟩, ⟨.t 115, .p (.mv), [.t 114], none, 0, 0⟩, ⟨.t 116, .p (.mv), [.l 10], (some (.t 115, true)), 0, 0⟩, ⟨.t 117, .r (.load true 9), [.l 2], (some (.t 115, true)), 0, 0⟩, ⟨.t 118, .call 20, [.t 116, .c (.str 4 1953069157), .t 117], (some (.t 115, true)), 0, 0⟩, ⟨.t 119, .p (.bin .eql), [.t 118, .c (.int .i64 1)], (some (.t 115, true)), 0, 0⟩, ⟨.t 120, .p (.pick), [.t 115, .t 119, .c (.bool false)], none, 0, 0⟩, ⟨.t 121, .p (.mv), [.t 120], none, 0, 0⟩, ⟨.t 122, .p (.mv), [.l 10], (some (.t 121, true)), 0, 0⟩, ⟨.t 123, .p (.mv), [.l 12], (some (.t 121, true)), 0, 0⟩, ⟨.t 124, .call 21, [.t 122, .t 123], (some (.t 121, true)), 0, 0⟩, ⟨.t 125, .p (.bin .eql), [.t 124, .c (.int .i64 1)], (some (.t 121, true)), 0, 0⟩, ⟨.t 126, .p (.pick), [.t 121, .t 125, .c (.bool false)], none, 0, 0⟩, ⟨.t 127, .p (.mv), [.t 126], none, 0, 0⟩, ⟨.t 128, .p (.mv), [.l 10], (some (.t 127, true)), 0, 0⟩, ⟨.t 129, .call 22, [.t 128], (some (.t 127, true)), 0, 0⟩, ⟨.t 130, .p (.bin .eql), [.t 129, .c (.int .i64 1)], (some (.t 127, true)), 0, 0⟩, ⟨.t 131, .p (.pick), [.t 127, .t 130, .c (.bool false)], none, 0, 0⟩, ⟨.t 132, .p (.mv), [.t 131], none, 0, 0⟩, ⟨.t 133, .p (.mv), [.l 10], (some (.t 132, true)), 0, 0⟩, ⟨.t 134, .call 23, [.t 133, .c (.str 1 109), .c (.int .i64 1)], (some (.t 132, true)), 0, 0⟩, ⟨.t 135, .p (.un .not), [.t 134], (some (.t 132, true)), 0, 0⟩, ⟨.t 136, .p (.pick), [.t 132, .t 135, .c (.bool false)], none, 0, 0⟩, ⟨.t 137, .p (.mv), [.t 136], none, 0, 0⟩, ⟨.t 138, .p (.mv), [.l 10], (some (.t 137, true)), 0, 0⟩, ⟨.t 139, .call 24, [.t 138], (some (.t 137, true)), 0, 0⟩, ⟨.t 140, .p (.bin .eql), [.t 139, .c (.int .i64 0)], (some (.t 137, true)), 0, 0⟩, ⟨.t 141, .p (.pick), [.t 137, .t 140, .c (.bool false)], none, 0, 0⟩, ⟨.t 142, .p (.mv), [.t 141], none, 0, 0⟩, ⟨.t 143, .p (.mv), [.l 10], (some (.t 142, true)), 0, 0⟩, ⟨.t 144, .call 25, [.t 143, .c (.bool true)], (some (.t 142, true)), 0, 0⟩, ⟨.t 145, .p (.bin .eql), [.t 144, .c (.int .i64 1)], (some (.t 142, true)), 0, 0⟩, ⟨.t 146, .p (.pick), [.t 142, .t 145, .c (.bool false)], none, 0, 0⟩, ⟨.t 147, .p (.mv), [.t 146], none, 0, 0⟩, ⟨.t 148, .p (.mv), [.l 10], (some (.t 147, true)), 0, 0⟩, ⟨.t 149, .call 26, [.t 148], (some (.t 147, true)), 0, 0⟩, ⟨.t 150, .p (.bin .eql), [.t 149, .c (.int .i64 0)], (some (.t 147, true)), 0, 0⟩, ⟨.t 151, .p (.pick), [.t 147, .t 150, .c (.bool false)], none, 0, 0⟩, ⟨.t 152, .p (.mv), [.t 151], none, 0, 0⟩, ⟨.t 153, .call 5, [], (some (.t 152, true)), 0, 0⟩, ⟨.t 154, .p (.pick), [.t 152, .t 153, .c (.bool false)], none, 0, 0⟩, ⟨.l 4, .p (.mv), [.t 154], none, 0, 0⟩])
 .ret)))))))))),
 [.tmp (.l 4)]⟩
theorem cf3_ok : compF TP Tryz.f3 = some cf3 := by kernel_rfl
def cf5 : CF := ⟨0, (.seq (.reg [⟨.l 0, .p (.mv), [.c (.bool false)], none, 0, 0⟩])
 (.seq (.reg [⟨.t 5, .call 11, [], none, 0, 0⟩, ⟨.t 6, .call 6, [], none, 0, 0⟩, ⟨.t 7, .call 7, [], none, 0, 0⟩, ⟨.t 8, .call 8, [], none, 0, 0⟩, ⟨.t 9, .p (.build [(.int .i64 0), (.int .i64 0), (.bool false)] [(0, 1), (1, 1)]), [.c (.int .i64 50), .c (.int .i64 2)], none, 0, 0⟩, ⟨.t 10, .call 10, [.t 5, .t 6, .t 7, .t 8, .t 9], none, 0, 0⟩, ⟨.l 1, .p (.mv), [.t 10], none, 0, 0⟩])
 (.seq (.reg [⟨.t 12, .call 15, [], none, 0, 0⟩, ⟨.t 13, .call 14, [.t 12], none, 0, 0⟩, ⟨.t 11, .p (.mv), [.t 13], none, 0, 0⟩, ⟨.t 14, .p (.ext 0), [.t 11], none, 0, 0⟩, ⟨.t 15, .p (.ext 1), [.t 11], none, 0, 0⟩, ⟨.l 2, .p (.mv), [.t 14], none, 0, 0⟩, ⟨.l 3, .p (.mv), [.t 15], none, 0, 0⟩])
 (.seq (.seq (.reg [⟨.t 16, .p (.mv), [.l 1], none, 0, 0⟩, ⟨.t 17, .r (.eq (.one .p) false), [.t 16, .c .nilp], none, 0, 0⟩, ⟨.t 18, .p (.mv), [.t 17], none, 0, 0⟩, ⟨.t 19, .p (.mv), [.l 3], (some (.t 18, false)), 0, 0⟩, ⟨.t 20, .p (.bin .neq), [.t 19, .c (.int .i64 0)], (some (.t 18, false)), 0, 0⟩, ⟨.t 21, .p (.pick), [.t 18, .c (.bool true), .t 20], none, 0, 0⟩, ⟨.t 22, .p (.mv), [.t 21], none, 0, 0⟩, ⟨.t 23, .p (.mv), [.l 1], (some (.t 22, false)), 0, 0⟩, ⟨.t 24, .p (.build [(.int .i64 0), (.int .i64 0), (.int .i64 0), (.str 0 0), (.str 0 0), (.int .i64 0), .nils, (.str 0 0), (.int .i64 0)] [(0, 1)]), [.c (.int .i64 1)], (some (.t 22, false)), 0, 0⟩, ⟨.t 25, .a (.bslice [(.int .i64 0), (.int .i64 0), (.int .i64 0), (.str 0 0), (.str 0 0), (.int .i64 0), .nils, (.str 0 0), (.int .i64 0)] 1 9 [(0, 9)]), [.t 24], (some (.t 22, false)), 0, 0⟩, ⟨.t 26, .call 16, [.t 23, .c (.str 1 109), .c (.str 1 102), .t 25], (some (.t 22, false)), 0, 0⟩, ⟨.t 27, .p (.bin .neq), [.t 26, .c (.int .i64 0)], (some (.t 22, false)), 0, 0⟩, ⟨.t 28, .p (.pick), [.t 22, .c (.bool true), .t 27], none, 0, 0⟩, ⟨.t 29, .p (.mv), [.t 28], none, 0, 0⟩, ⟨.t 30, .p (.mv), [.l 1], (some (.t 29, false)), 0, 0⟩, ⟨.t 31, .call 12, [.t 30], (some (.t 29, false)), 0, 0⟩, ⟨.t 32, .p (.field false 0 1), [.t 31], (some (.t 29, false)), 0, 0⟩, ⟨.t 33, .p (.bin .neq), [.t 32, .c (.int .i64 5)], (some (.t 29, false)), 0, 0⟩, ⟨.l 34, .p (.pick), [.t 29, .c (.bool true), .t 33], none, 0, 0⟩])
 (.cond (.l 34) (.seq (.reg [⟨.l 0, .p (.mv), [.c (.bool false)], none, 0, 0⟩])
 .ret)
 .skip))
 (.seq (.seq (.reg [⟨.t 35, .p (.mv), [.l 1], none, 0, 0⟩, ⟨.t 36, .p (.mv), [.l 2], none, 0, 0⟩, ⟨.t 37, .call 21, [.t 35, .t 36], none, 0, 0⟩, ⟨.t 38, .p (.bin .neq), [.t 37, .c (.int .i64 0)], none, 0, 0⟩, ⟨.t 39, .p (.mv), [.t 38], none, 0, 0⟩, ⟨.t 40, .p (.mv), [.l 1], (some (.t 39, false)), 0, 0⟩, ⟨.t 41, .call 12, [.t 40], (some (.t 39, false)), 0, 0⟩, ⟨.t 42, .p (.field false 0 1), [.t 41], (some (.t 39, false)), 0, 0⟩, ⟨.t 43, .p (.bin .neq), [.t 42, .c (.int .i64 3)], (some (.t 39, false)), 0, 0⟩, ⟨.t 44, .p (.pick), [.t 39, .c (.bool true), .t 43], none, 0, 0⟩, ⟨.t 45, .p (.mv), [.t 44], none, 0, 0⟩, ⟨.t 46, .p (.mv), [.l 1], (some (.t 45, false)), 0, 0⟩, ⟨.t 47, .call 18, [.t 46, .c (.int .i64 1)], (some (.t 45, false)), 0, 0⟩, ⟨.t 48, .p (.bin .neq), [.t 47, .c (.int .i64 0)], (some (.t 45, false)), 0, 0⟩, ⟨.l 49, .p (.pick), [.t 45, .c (.bool true), .t 48], none, 0, 0⟩])
 (.cond (.l 49) (.seq (.reg [⟨.l 0, .p (.mv), [.c (.bool false)], none, 0, 0⟩])
 .ret)
 .skip))
 (.seq (.reg [⟨.t 50, .p (.mv), [.l 1], none, 0, 0⟩, ⟨.t 51, .call 12, [.t 50], none, 0, 0⟩, ⟨.l 4, .a (.alloc [(.int .i64 0), (.str 0 0), (.int .i64 0), (.int .i64 0), (.int .i64 0), (.str 0 0), (.str 0 0), (.int .i64 0), .nils, (.str 0 0), (.int .i64 0), (.str 0 0), (.str 0 0), (.str 0 0), .nils, (.int .i64 0)]), [], none, 0, 0⟩, ⟨.no, .e (.store 16), [.l 4, .t 51], none, 0, 0⟩])
 (.seq (.reg [⟨.t 52, .p (.fa 0), [.l 4], none, 0, 0⟩, ⟨.t 53, .r (.load false 1), [.t 52], none, 0, 0⟩, ⟨.t 54, .p (.bin .eql), [.t 53, .c (.int .i64 1)], none, 0, 0⟩, ⟨.t 55, .p (.mv), [.t 54], none, 0, 0⟩, ⟨.t 56, .p (.fa 2), [.l 4], (some (.t 55, true)), 0, 0⟩, ⟨.t 57, .p (.fa 0), [.t 56], (some (.t 55, true)), 0, 0⟩, ⟨.t 58, .r (.load false 1), [.t 57], (some (.t 55, true)), 0, 0⟩, ⟨.t 59, .p (.bin .eql), [.t 58, .c (.int .i64 2)], (some (.t 55, true)), 0, 0⟩, ⟨.t 60, .p (.pick), [.t 55, .t 59, .c (.bool false)], none, 0, 0⟩, ⟨.t 61, .p (.mv), [.t 60], none, 0, 0⟩, ⟨.t 62, .p (.fa 2), [.l 4], (some (.t 61, true)), 0, 0⟩, ⟨.t 63, .p (.fa 3), [.t 62], (some (.t 61, true)), 0, 0⟩, ⟨.t 64, .r (.load false 1), [.t 63], (some (.t 61, true)), 0, 0⟩, ⟨.t 65, .p (.bin .eql), [.t 64, .c (.str 4 1701736292)], (some (.t 61, true)), 0, 0⟩, ⟨.t 66, .p (.pick), [.t 61, .t 65, .c (.bool false)], none, 0, 0⟩, ⟨.l 0, .p (.mv), [.t 66], none, 0, 0⟩])
 .ret))))))),
 [.tmp (.l 0)]⟩
theorem cf5_ok : compF TP Tryz.f5 = some cf5 := by kernel_rfl
def cf6 : CF := ⟨0, (.seq (.reg [⟨.l 0, .p (.mv), [.c .nilp], none, 0, 0⟩])
 (.seq (.reg [⟨.t 1, .p (.build [(.bool false), .nilp, .nilp, .nilp, (.int .i64 0), (.int .i64 0)] [(0, 1)]), [.c (.bool true)], none, 0, 0⟩, ⟨.t 2, .a (.box), [.t 1], none, 0, 0⟩, ⟨.l 0, .p (.mv), [.t 2], none, 0, 0⟩])
 .ret)),
 [.tmp (.l 0)]⟩
theorem cf6_ok : compF TP Tryz.f6 = some cf6 := by kernel_rfl
def cf7 : CF := ⟨0, (.seq (.reg [⟨.l 0, .p (.mv), [.c .nilp], none, 0, 0⟩])
 (.seq (.reg [⟨.t 1, .a (.mkm false), [], none, 0, 0⟩, ⟨.t 2, .p (.build [.nilm, .nils] [(0, 1)]), [.t 1], none, 0, 0⟩, ⟨.t 3, .a (.box), [.t 2], none, 0, 0⟩, ⟨.l 0, .p (.mv), [.t 3], none, 0, 0⟩])
 .ret)),
 [.tmp (.l 0)]⟩
theorem cf7_ok : compF TP Tryz.f7 = some cf7 := by kernel_rfl
def cf8 : CF := ⟨0, (.seq (.reg [⟨.l 0, .p (.mv), [.c .nilp], none, 0, 0⟩])
 (.seq (.reg [⟨.t 1, .a (.mkm false), [], none, 0, 0⟩, ⟨.t 2, .a (.mkm false), [], none, 0, 0⟩, ⟨.t 3, .p (.build [.nilm, .nilm, (.int .i64 0), (.int .i64 0)] [(0, 1), (1, 1)]), [.t 1, .t 2], none, 0, 0⟩, ⟨.t 4, .a (.box), [.t 3], none, 0, 0⟩, ⟨.l 0, .p (.mv), [.t 4], none, 0, 0⟩])
 .ret)),
 [.tmp (.l 0)]⟩
theorem cf8_ok : compF TP Tryz.f8 = some cf8 := by kernel_rfl
def cf9 : CF := ⟨1, (.seq (.reg [⟨.l 1, .a (.box), [.l 0], none, 0, 0⟩, ⟨.l 2, .p (.mv), [.c (.bool false)], none, 0, 0⟩])
 (.seq (.reg [⟨.t 3, .r (.load true 9), [.l 1], none, 0, 0⟩, ⟨.t 4, .call 28, [.t 3], none, 0, 0⟩, ⟨.t 5, .p (.bin .eql), [.t 4, .c (.int .i64 0)], none, 0, 0⟩, ⟨.l 2, .p (.mv), [.t 5], none, 0, 0⟩])
 .ret)),
 [.tmp (.l 2)]⟩
theorem cf9_ok : compF TP Tryz.f9 = some cf9 := by kernel_rfl
def cf10 : CF := ⟨5, (.seq (.reg [⟨.l 5, .a (.box), [.l 0], none, 0, 0⟩, ⟨.l 9, .a (.box), [.l 4], none, 0, 0⟩, ⟨.l 10, .p (.mv), [.c .nilp], none, 0, 0⟩])
 (.seq (.seq (.reg [⟨.t 16, .p (.fa 0), [.l 5], none, 0, 0⟩, ⟨.t 17, .r (.load false 1), [.t 16], none, 0, 0⟩, ⟨.t 18, .p (.bin .neq), [.t 17, .c (.int .i64 6)], none, 0, 0⟩, ⟨.t 19, .p (.mv), [.t 18], none, 0, 0⟩, ⟨.t 20, .r (.load true 9), [.l 5], (some (.t 19, false)), 0, 0⟩, ⟨.t 21, .call 29, [.t 20], (some (.t 19, false)), 0, 0⟩, ⟨.t 22, .p (.un .not), [.t 21], (some (.t 19, false)), 0, 0⟩, ⟨.t 23, .p (.pick), [.t 19, .c (.bool true), .t 22], none, 0, 0⟩, ⟨.t 24, .p (.mv), [.t 23], none, 0, 0⟩, ⟨.t 25, .p (.mv), [.l 1], (some (.t 24, false)), 0, 0⟩, ⟨.t 26, .p (.build [(.int .i64 0), (.int .i64 0), (.int .i64 0), (.str 0 0), (.str 0 0), (.int .i64 0), .nils, (.str 0 0), (.int .i64 0)] []), [], (some (.t 24, false)), 0, 0⟩, ⟨.t 27, .call 30, [.t 25, .t 26], (some (.t 24, false)), 0, 0⟩, ⟨.t 28, .p (.bin .eql), [.t 27, .c (.int .i64 1)], (some (.t 24, false)), 0, 0⟩, ⟨.t 29, .p (.pick), [.t 24, .c (.bool true), .t 28], none, 0, 0⟩, ⟨.t 30, .p (.mv), [.t 29], none, 0, 0⟩, ⟨.t 31, .p (.mv), [.l 3], (some (.t 30, false)), 0, 0⟩, ⟨.t 32, .call 31, [.t 31, .c (.int .i64 0)], (some (.t 30, false)), 0, 0⟩, ⟨.t 33, .p (.bin .eql), [.t 32, .c (.int .i64 1)], (some (.t 30, false)), 0, 0⟩, ⟨.l 34, .p (.pick), [.t 30, .c (.bool true), .t 33], none, 0, 0⟩])
 (.cond (.l 34) (.seq (.reg [⟨.l 10, .p (.mv), [.c .nilp], none, 0, 0⟩])
 .ret)
 .skip))
 (.seq (.seq (.reg [⟨.t 36, .p (.mv), [.l 2], none, 0, 0⟩, ⟨.t 37, .call 32, [.t 36, .c (.str 0 0)], none, 0, 0⟩, ⟨.t 35, .p (.mv), [.t 37], none, 0, 0⟩, ⟨.t 38, .p (.ext 0), [.t 35], none, 0, 0⟩, ⟨.t 39, .p (.ext 1), [.t 35], none, 0, 0⟩, ⟨.t 11, .p (.mv), [.t 38], none, 0, 0⟩, ⟨.l 12, .p (.mv), [.t 39], none, 0, 0⟩])
 (.seq (.reg [⟨.t 40, .p (.mv), [.l 12], none, 0, 0⟩, ⟨.l 41, .p (.bin .eql), [.t 40, .c (.int .i64 1)], none, 0, 0⟩])
 (.cond (.l 41) (.seq (.reg [⟨.l 10, .p (.mv), [.c .nilp], none, 0, 0⟩])
 .ret)
 .skip)))
 (.seq (.reg [⟨.t 42, .p (.mv), [.l 2], none, 0, 0⟩, ⟨.t 43, .p (.mv), [.l 3], none, 0, 0⟩, ⟨.t 44, .p (.fa 0), [.l 9], none, 0, 0⟩, ⟨.t 45, .r (.load false 1), [.t 44], none, 0, 0⟩, ⟨.t 46, .call 33, [.t 42, .t 43, .t 45], none, 0, 0⟩, ⟨.l 13, .p (.mv), [.t 46], none, 0, 0⟩])
 (.seq (.reg [⟨.t 47, .p (.mv), [.l 13], none, 0, 0⟩, ⟨.t 48, .r (.load true 3), [.l 9], none, 0, 0⟩, ⟨.t 49, .call 34, [.t 47, .t 48], none, 0, 0⟩, ⟨.l 14, .p (.mv), [.t 49], none, 0, 0⟩])
 (.seq (.seq (.reg [⟨.t 50, .p (.mv), [.l 13], none, 0, 0⟩, ⟨.t 51, .r (.eq (.one .p) false), [.t 50, .c .nilp], none, 0, 0⟩, ⟨.t 52, .p (.mv), [.t 51], none, 0, 0⟩, ⟨.t 53, .p (.mv), [.l 14], (some (.t 52, false)), 0, 0⟩, ⟨.t 54, .r (.eq (.one .p) false), [.t 53, .c .nilp], (some (.t 52, false)), 0, 0⟩, ⟨.l 55, .p (.pick), [.t 52, .c (.bool true), .t 54], none, 0, 0⟩])
 (.cond (.l 55) (.seq (.reg [⟨.l 10, .p (.mv), [.c .nilp], none, 0, 0⟩])
 .ret)
 .skip))
 (.seq (.reg [⟨.t 56, .r (.load true 9), [.l 5], none, 0, 0⟩, ⟨.t 57, .call 35, [.t 56], none, 0, 0⟩, ⟨.t 58, .p (.mv), [.l 1], none, 0, 0⟩, ⟨.t 59, .p (.mv), [.l 13], none, 0, 0⟩, ⟨.t 60, .p (.mv), [.l 14], none, 0, 0⟩, ⟨.t 61, .a (.mkm false), [], none, 0, 0⟩, ⟨.t 62, .call 36, [], none, 0, 0⟩, ⟨.t 63, .call 37, [], none, 0, 0⟩, ⟨.t 64, .call 37, [], none, 0, 0⟩, ⟨.t 65, .p (.build [(.int .i64 0), (.int .i64 0), (.int .i64 0), (.str 0 0), (.str 0 0), (.int .i64 0), .nils, (.str 0 0), (.int .i64 0), .nilp, .nilp, .nilp, .nilm, .nilf, .nilf, .nilf, .nilf, .nilf, .nilf, .nilf, .nilf, .nilf, .nilf, .nilf, .nilf, .nilf, .nilf, .nilf, .nilf, .nilf, .nilf, .nilf, .nilf, .nilf, .nilf, .nilf, .nilf, .nilf, .nilf, .nilf, .nilf, .nilf, .nilf, .nilf, .nilf, .nilf, .nilf, .nilf, .nilf, .nilf, .nilf, .nilf, .nilf, .nilf, (.int .u64 0), (.int .u64 0), (.int .u64 0), (.int .u64 0), (.int .u64 0), (.int .u64 0), (.int .u64 0), (.int .u64 0), (.int .u64 0), (.int .u64 0), (.int .u64 0), (.int .u64 0), (.int .u64 0), (.int .u64 0), (.int .u64 0), (.int .u64 0), (.int .u64 0), (.int .u64 0), (.int .u64 0), (.int .u64 0), (.int .u64 0), (.int .u64 0), (.int .u64 0), (.int .u64 0), (.int .u64 0), (.int .u64 0), (.int .u64 0), (.int .u64 0), (.int .u64 0), (.int .u64 0), (.int .u64 0), (.int .u64 0), (.int .u64 0), (.int .u64 0), (.int .u64 0), (.int .u64 0), (.int .u64 0), (.int .u64 0), (.int .u64 0), (.int .u64 0), (.int .u64 0), (.int .u64 0), (.int .u64 0), (.int .u64 0), (.int .u64 0), (.int .u64 0), (.int .u64 0), (.int .u64 0), (.int .u64 0), (.int .u64 0), (.int .u64 0), (.int .u64 0), (.int .u64 0), (.int .u64 0), (.int .u64 0), (.int .u64 0), (.int .u64 0), (.int .u64 0), (.int .u64 0), (.int .u64 0), (.int .u64 0), (.int .u64 0), (.int .u64 0), (.int .u64 0), (.int .u64 0), (.int .u64 0), (.int .u64 0), (.int .u64 0), (.int .u64 0), (.int .u64 0), (.int .u64 0), (.int .u64 0), (.int .u64 0), (.int .u64 0), (.int .u64 0), (.int .u64 0), (.int .u64 0), (.int .u64 0), (.int .u64 0), (.int .u64 0), (.int .u64 0), (.int .u64 0), (.int .u64 0), (.int .u64 0), (.int .u64 0), (.int .u64 0), (.int .u64 0), (.int .u64 0), (.int .u64 0), (.int .u64 0), (.int .u64 0), (.int .u64 0), (.int .u64 0), (.int .u64 0), (.int .u64 0), (.int .u64 0), (.int .u64 0), (.int .u64 0), (.int .u64 0), (.int .u64 0), (.int .u64 0), (.int .u64 0), (.int .u64 0), (.int .u64 0), (.int .u64 0), (.int .u64 0), (.int .u64 0), (.int .u64 0), (.int .u64 0), (.int .u64 0), (.int .u64 0), (.int .u64 0), (.int .u64 0), (.int .u64 0), (.int .u64 0), (.int .u64 0), (.int .u64 0), (.int .u64 0), (.int .u64 0), (.int .u64 0), (.int .u64 0), (.int .u64 0), (.int .u64 0), (.int .u64 0), (.int .u64 0), (.int .u64 0), (.int .u64 0), (.int .u64 0), (.int .u64 0), (.int .u64 0), (.int .u64 0), (.int .u64 0), (.int .u64 0), (.int .u64 0), (.int .u64 0), (.int .u64 0), (.int .u64 0), (.int .u64 0), (.int .u64 0), (.int .u64 0), (.int .u64 0), (.int .u64 0), (.int .u64 0), (.int .u64 0), (.int .u64 0), (.int .u64 0), (.int .u64 0), (.int .u64 0), (.int .u64 0), (.int .u64 0), (.int .u64 0), (.int .u64 0), (.int .u64 0), (.int .u64 0), (.int .u64 0), (.int .u64 0), (.int .u64 0), (.int .u64 0), (.int .u64 0), (.int .u64 0), (.int .u64 0), (.int .u64 0), (.int .u64 0), (.int .u64 0), (.int .u64 0), (.int .u64 0), (.int .u64 0), (.int .u64 0), (.int .u64 0), (.int .u64 0), (.int .u64 0), (.int .u64 0), (.int .u64 0), (.int .u64 0), (.int .u64 0), (.int .u64 0), (.int .u64 0), (.int .u64 0), (.int .u64 0), (.int .u64 0), (.int .u64 0), (.int .u64 0), (.int .u64 0), (.int .u64 0), (.int .u64 0), (.int .u64 0), (.int .u64 0), (.int .u64 0), (.int .u64 0), (.int .u64 0), (.int .u64 0), (.int .u64 0), (.int .u64 0), (.int .u64 0), (.int .u64 0), (.int .u64 0), (.int .u64 0), (.int .u64 0), (.int .u64 0), (.int .u64 0), (.int .u64 0), (.int .u64 0), (.int .u64 0), (.int .u64 0), (.int .u64 0), (.int .u64 0), (.int .u64 0), (.int .u64 0), (.int .u64 0), (.int .u64 0), (.int .u64 0), (.int .u64 0), (.int .u64 0), (.int .u64 0), (.int .u64 0), (.int .u64 0), (.int .u64 0), (.int .u64 0), (.int .u64 0), (.int .u64 0), (.int .u64 0), (.int .u64 0), (.int .u64 0), (.int .u64 0), (.int .u64 0), (.int .u64 0), (.int .u64 0), (.int .u64 0), (.int .u64 0), (.int .u64 0), (.int .u64 0), (.int .u64 0), (.int .u64 0), (.int .u64 0), (.int .u64 0), (.int .u64 0), (.int .u64 0), (.int .u64 0), (.int .u64 0), (.int .u64 0), (.int .u64 0), (.int .u64 0), (.int .u64 0), (.int .u64 0), (.int .u64 0), (.int .u64 0), (.int .u64 0), (.int .u64 0), (.int .u64 0), (.int .u64 0), (.int .u64 0), (.int .u64 0), (.int .u64 0), (.int .u64 0), (.int .u64 0), (.int .u64 0), .nils, .nilp, (.int .i64 0), (.int .i64 0), (.int .i64 0), (.bool false), (.bool false), .nils, .nils, .nils, (.int .u64 0), (.int .u64 0), (.int .i64 0), (.int .i64 0), (.bool false), (.bool false), (.int .i64 0), (.bool false), (.bool false), (.int .i64 0), (.int .i64 0), (.str 0 0), (.int .i64 0), (.int .i64 0), (.int .i64 0), (.str 0 0), (.str 0 0), (.int .i64 0), .nils, (.str 0 0), (.int .i64 0), (.str 0 0), (.str 0 0), (.str 0 0), .nils, (.int .i64 0), (.bool false)] [(0, 9), (9, 1), (10, 1), (11, 1), (12, 1), (13, 41), (320, 1), (321, 1)]), [.t 57, .t 58, .t 59, .t 60, .t 61, .t 62, .t 63, .t 64], none, 0, 0⟩, ⟨.t 66, .a (.box), [.t 65], none, 0, 0⟩, ⟨.l 15, .p (.mv), [.t 66], none, 0, 0⟩])
 (.seq (.reg [⟨.t 67, .p (.mv), [.l 15], none, 0, 0⟩, ⟨.t 68, .call 38, [.t 67], none, 0, 0⟩])
 (.seq (.reg [⟨.t 69, .p (.mv), [.l 15], none, 0, 0⟩, ⟨.l 10, .p (.mv), [.t 69], none, 0, 0⟩])
 .ret))))))))),
 [.tmp (.l 10)]⟩
theorem cf10_ok : compF TP Tryz.f10 = some cf10 := by kernel_rfl
def cf11 : CF := ⟨0, (.seq (.reg [⟨.l 0, .a (.alloc [(.int .i64 0), (.int .i64 0), (.int .i64 0), (.str 0 0), (.str 0 0), (.int .i64 0), .nils, (.str 0 0), (.int .i64 0)]), [], none, 0, 0⟩])
 (.seq (.reg [⟨.t 1, .p (.build [(.int .i64 0), (.int .i64 0), (.int .i64 0), (.str 0 0), (.str 0 0), (.int .i64 0), .nils, (.str 0 0), (.int .i64 0)] [(0, 1), (3, 1), (2, 1), (1, 1)]), [.c (.int .i64 6), .c (.str 1 97), .c (.int .i64 1), .c (.int .i64 1)], none, 0, 0⟩, ⟨.no, .e (.store 9), [.l 0, .t 1], none, 0, 0⟩])
 .ret)),
 [.cell (.l 0) true 9]⟩
theorem cf11_ok : compF TP Tryz.f11 = some cf11 := by kernel_rfl
def cf12 : CF := ⟨1, (.seq (.reg [⟨.l 2, .a (.alloc [(.int .i64 0), (.str 0 0), (.int .i64 0), (.int .i64 0), (.int .i64 0), (.str 0 0), (.str 0 0), (.int .i64 0), .nils, (.str 0 0), (.int .i64 0), (.str 0 0), (.str 0 0), (.str 0 0), .nils, (.int .i64 0)]), [], none, 0, 0⟩])
 (.seq (.seq (.reg [⟨.t 3, .p (.mv), [.l 0], none, 0, 0⟩, ⟨.t 4, .call 39, [.t 3], none, 0, 0⟩, ⟨.l 5, .p (.un .not), [.t 4], none, 0, 0⟩])
 (.cond (.l 5) (.seq (.reg [⟨.t 6, .p (.build [(.int .i64 0), (.str 0 0), (.int .i64 0), (.int .i64 0), (.int .i64 0), (.str 0 0), (.str 0 0), (.int .i64 0), .nils, (.str 0 0), (.int .i64 0), (.str 0 0), (.str 0 0), (.str 0 0), .nils, (.int .i64 0)] []), [], none, 0, 0⟩, ⟨.no, .e (.store 16), [.l 2, .t 6], none, 0, 0⟩])
 .ret)
 .skip))
 (.seq (.seq (.reg [⟨.t 7, .p (.mv), [.l 0], none, 0, 0⟩, ⟨.t 8, .p (.nilc), [.t 7], none, 0, 0⟩, ⟨.t 9, .p (.fa 329), [.t 8], none, 0, 0⟩, ⟨.t 10, .r (.load false 1), [.t 9], none, 0, 0⟩, ⟨.l 11, .p (.bin .eql), [.t 10, .c (.int .i64 4)], none, 0, 0⟩])
 (.cond (.l 11) (.reg [⟨.t 12, .p (.mv), [.l 0], none, 0, 0⟩, ⟨.t 13, .p (.nilc), [.t 12], none, 0, 0⟩, ⟨.t 14, .p (.fa 329), [.t 13], none, 0, 0⟩, ⟨.no, .e (.store 1), [.t 14, .c (.int .i64 1)], none, 0, 0⟩])
 .skip))
 (.seq (.block 0 (.loop (.seq (.seq (.reg [⟨.t 15, .p (.mv), [.l 0], none, 0, 0⟩, ⟨.t 16, .p (.nilc), [.t 15], none, 0, 0⟩, ⟨.t 17, .p (.fa 329), [.t 16], none, 0, 0⟩, ⟨.t 18, .r (.load false 1), [.t 17], none, 0, 0⟩, ⟨.t 19, .p (.bin .eql), [.t 18, .c (.int .i64 1)], none, 0, 0⟩, ⟨.t 20, .p (.mv), [.t 19], none, 0, 0⟩, ⟨.t 21, .p (.mv), [.l 0], (some (.t 20, false)), 0, 0⟩, ⟨.t 22, .p (.nilc), [.t 21], (some (.t 20, false)), 0, 0⟩, ⟨.t 23, .p (.fa 329), [.t 22], (some (.t 20, false)), 0, 0⟩, ⟨.t 24, .r (.load false 1), [.t 23], (some (.t 20, false)), 0, 0⟩, ⟨.t 25, .p (.bin .eql), [.t 24, .c (.int .i64 2)], (some (.t 20, false)), 0, 0⟩, ⟨.l 26, .p (.pick), [.t 20, .c (.bool true), .t 25], none, 0, 0⟩])
 (.cond (.l 26) .skip
 (.exit 0)))
 (.block 1 (.seq (.seq (.reg [⟨.t 27, .p (.mv), [.l 0], none, 0, 0⟩, ⟨.t 28, .p (.nilc), [.t 27], none, 0, 0⟩, ⟨.t 29, .p (.fa 329), [.t 28], none, 0, 0⟩, ⟨.t 30, .r (.load false 1), [.t 29], none, 0, 0⟩, ⟨.l 31, .p (.bin .eql), [.t 30, .c (.int .i64 2)], none, 0, 0⟩])
 (.cond (.l 31) (.seq (.seq (.reg [⟨.t 32, .p (.mv), [.l 0], none, 0, 0⟩, ⟨.t 33, .p (.nilc), [.t 32], none, 0, 0⟩, ⟨.t 34, .p (.fa 326), [.t 33], none, 0, 0⟩, ⟨.t 35, .r (.load false 1), [.t 34], none, 0, 0⟩, ⟨.l 36, .p (.bin .eql), [.t 35, .c (.int .i64 0)], none, 0, 0⟩])
 (.cond (.l 36) (.seq (.reg [⟨.t 37, .p (.build [(.int .i64 0), (.str 0 0), (.int .i64 0), (.int .i64 0), (.int .i64 0), (.str 0 0), (.str 0 0), (.int .i64 0), .nils, (.str 0 0), (.int .i64 0), (.str 0 0), (.str 0 0), (.str 0 0), .nils, (.int .i64 0)] [(0, 1)]), [.c (.int .i64 3)], none, 0, 0⟩, ⟨.no, .e (.store 16), [.l 2, .t 37], none, 0, 0⟩])
 .ret)
 .skip))
 (.seq (.reg [⟨.t 38, .p (.mv), [.l 0], none, 0, 0⟩, ⟨.t 39, .p (.nilc), [.t 38], none, 0, 0⟩, ⟨.t 40, .p (.fa 326), [.t 39], none, 0, 0⟩, ⟨.t 41, .r (.load false 1), [.t 40], none, 0, 0⟩, ⟨.t 42, .p (.bin .sub), [.t 41, .c (.int .i64 1)], none, 0, 0⟩, ⟨.t 43, .p (.nilc), [.t 38], none, 0, 0⟩, ⟨.t 44, .p (.fa 326), [.t 43], none, 0, 0⟩, ⟨.no, .e (.store 1), [.t 44, .t 42], none, 0, 0⟩])
 (.reg [⟨.t 45, .p (.mv), [.l 0], none, 0, 0⟩, ⟨.t 46, .call 40, [.t 45], none, 0, 0⟩])))
 .skip))
 (.reg [⟨.t 47, .p (.mv), [.l 0], none, 0, 0⟩, ⟨.t 48, .call 41, [.t 47], none, 0, 0⟩]))))))
 (.seq (.reg [⟨.t 49, .p (.mv), [.l 0], none, 0, 0⟩, ⟨.t 50, .p (.nilc), [.t 49], none, 0, 0⟩, ⟨.t 51, .p (.fa 330), [.t 50], none, 0, 0⟩, ⟨.t 52, .r (.load true 16), [.t 51], none, 0, 0⟩, ⟨.t 53, .call 42, [.t 52], none, 0, 0⟩, ⟨.no, .e (.store 16), [.l 2, .t 53], none, 0, 0⟩])
 .ret))))),
 [.cell (.l 2) true 16]⟩
theorem cf12_ok : compF TP Tryz.f12 = some cf12 := by kernel_rfl
def cf13 : CF := ⟨1, (.seq (.seq (.reg [⟨.t 2, .p (.mv), [.l 0], none, 0, 0⟩, ⟨.t 3, .call 39, [.t 2], none, 0, 0⟩, ⟨.l 4, .p (.un .not), [.t 3], none, 0, 0⟩])
 (.cond (.l 4) .ret
 .skip))
 (.seq (.reg [⟨.t 5, .p (.mv), [.l 0], none, 0, 0⟩, ⟨.t 6, .p (.build [(.int .i64 0), (.str 0 0), (.int .i64 0), (.int .i64 0), (.int .i64 0), (.str 0 0), (.str 0 0), (.int .i64 0), .nils, (.str 0 0), (.int .i64 0), (.str 0 0), (.str 0 0), (.str 0 0), .nils, (.int .i64 0)] []), [], none, 0, 0⟩, ⟨.t 7, .call 43, [.t 5, .t 6], none, 0, 0⟩])
 (.seq (.reg [⟨.t 8, .p (.mv), [.l 0], none, 0, 0⟩, ⟨.t 9, .call 38, [.t 8], none, 0, 0⟩])
 (.seq (.reg [⟨.t 10, .p (.mv), [.l 0], none, 0, 0⟩, ⟨.t 11, .p (.nilc), [.t 10], none, 0, 0⟩, ⟨.t 12, .p (.fa 328), [.t 11], none, 0, 0⟩, ⟨.no, .e (.store 1), [.t 12, .c (.bool true)], none, 0, 0⟩])
 (.reg [⟨.t 13, .p (.mv), [.l 0], none, 0, 0⟩, ⟨.t 14, .p (.nilc), [.t 13], none, 0, 0⟩, ⟨.t 15, .p (.fa 10), [.t 14], none, 0, 0⟩, ⟨.t 16, .r (.load false 1), [.t 15], none, 0, 0⟩, ⟨.t 17, .call 44, [.t 16], none, 0, 0⟩]))))),
 []⟩
theorem cf13_ok : compF TP Tryz.f13 = some cf13 := by kernel_rfl
def cf14 : CF := ⟨1, (.seq (.reg [⟨.l 1, .a (.box), [.l 0], none, 0, 0⟩, ⟨.l 2, .p (.mv), [.c .nilp], none, 0, 0⟩, ⟨.l 3, .p (.mv), [.c (.int .i64 0)], none, 0, 0⟩])
 (.seq (.seq (.reg [⟨.t 10, .r (.load true 6), [.l 1], none, 0, 0⟩, ⟨.t 11, .call 45, [.t 10], none, 0, 0⟩, ⟨.t 9, .p (.mv), [.t 11], none, 0, 0⟩, ⟨.t 12, .p (.ext 0), [.t 9], none, 0, 0⟩, ⟨.t 13, .p (.ext 1), [.t 9], none, 0, 0⟩, ⟨.t 4, .p (.mv), [.t 12], none, 0, 0⟩, ⟨.l 5, .p (.mv), [.t 13], none, 0, 0⟩])
 (.seq (.reg [⟨.t 14, .p (.mv), [.l 5], none, 0, 0⟩, ⟨.l 15, .p (.bin .neq), [.t 14, .c (.int .i64 0)], none, 0, 0⟩])
 (.cond (.l 15) (.seq (.reg [⟨.t 16, .p (.mv), [.l 5], none, 0, 0⟩, ⟨.l 2, .p (.mv), [.c .nilp], none, 0, 0⟩, ⟨.l 3, .p (.mv), [.t 16], none, 0, 0⟩])
 .ret)
 .skip)))
 (.seq (.reg [⟨.t 17, .r (.load true 6), [.l 1], none, 0, 0⟩, ⟨.t 18, .call 46, [.t 17], none, 0, 0⟩, ⟨.t 19, .a (.mkm false), [], none, 0, 0⟩, ⟨.t 20, .p (.build [(.str 0 0), (.int .i64 0), .nils, .nils, .nils, .nils, .nilm] [(0, 6), (6, 1)]), [.t 18, .t 19], none, 0, 0⟩, ⟨.t 21, .p (.build [(.str 0 0), (.int .i64 0), .nils, .nils, .nils, .nils, .nilm] [(0, 7)]), [.t 20], none, 0, 0⟩, ⟨.t 22, .a (.box), [.t 21], none, 0, 0⟩, ⟨.l 6, .p (.mv), [.t 22], none, 0, 0⟩])
 (.seq (.seq (.reg [⟨.t 23, .p (.mv), [.l 6], none, 0, 0⟩, ⟨.t 24, .p (.nilc), [.t 23], none, 0, 0⟩, ⟨.t 25, .p (.fa 0), [.t 24], none, 0, 0⟩, ⟨.t 26, .p (.fa 0), [.t 25], none, 0, 0⟩, ⟨.t 27, .p (.fa 3), [.t 26], none, 0, 0⟩, ⟨.l 28, .r (.load false 1), [.t 27], none, 0, 0⟩, ⟨.l 29, .p (.leng .sl), [.l 28], none, 0, 0⟩, ⟨.l 30, .p (.mv), [.c (.int .i64 0)], none, 0, 0⟩])
 (.block 0 (.loop (.seq (.reg [⟨.l 31, .p (.bin .lss), [.l 30, .l 29], none, 0, 0⟩])
 (.seq (.cond (.l 31) .skip
 (.exit 0))
 (.seq (.block 1 (.seq (.reg [⟨.t 32, .p (.mv), [.l 30], none, 0, 0⟩, ⟨.t 33, .p (.ixsl 4), [.l 28, .l 30], none, 0, 0⟩, ⟨.t 34, .r (.load true 4), [.t 33], none, 0, 0⟩, ⟨.l 8, .a (.alloc [(.str 0 0), (.int .i64 0), (.bool false), (.int .i64 0)]), [], none, 0, 0⟩, ⟨.l 7, .p (.mv), [.t 32], none, 0, 0⟩, ⟨.no, .e (.store 4), [.l 8, .t 34], none, 0, 0⟩])
 (.seq (.reg [⟨.t 35, .p (.fa 2), [.l 8], none, 0, 0⟩, ⟨.l 36, .r (.load false 1), [.t 35], none, 0, 0⟩])
 (.cond (.l 36) (.regD [⟨.t 37, .p (.mv), [.l 6], none, 0, 0⟩, ⟨.t 38, .p (.nilc), [.t 37], none, 0, 0⟩, ⟨.t 39, .p (.fa 0), [.t 38], none, 0, 0⟩, ⟨.t 40, .p (.fa 6), [.t 39], none, 0, 0⟩, ⟨.t 41, .r (.load false 1), [.t 40], none, 0, 0⟩, ⟨.t 42, .p (.fa 0), [.l 8], none, 0, 0⟩, ⟨.t 43, .r (.load false 1), [.t 42], none, 0, 0⟩, ⟨.t 44, .p (.fa 1), [.l 8], none, 0, 0⟩, ⟨.t 45, .r (.load false 1), [.t 44], none, 0, 0⟩, ⟨.t 46, .p (.build [(.str 0 0), (.int .i64 0)] [(0, 1), (1, 1)]), [.t 43, .t 45], none, 0, 0⟩, ⟨.t 47, .p (.mv), [.l 7], none, 0, 0⟩, ⟨.no, .e (.mapup (.agg [.s, .i])), [.t 41, .t 46, .t 47], none, 0, 1⟩])
 .skip))))
 (.reg [⟨.t 48, .p (.bin .add), [.l 30, .c (.int .i64 1)], none, 0, 0⟩, ⟨.l 30, .p (.mv), [.t 48], none, 0, 0⟩])))))))
 (.seq (.reg [⟨.t 49, .p (.mv), [.l 6], none, 0, 0⟩, ⟨.l 2, .p (.mv), [.t 49], none, 0, 0⟩, ⟨.l 3, .p (.mv), [.c (.int .i64 0)], none, 0, 0⟩])
 .ret))))),
 [.tmp (.l 2), .tmp (.l 3)]⟩
theorem cf14_ok : compF TP Tryz.f14 = some cf14 := by kernel_rfl
def cf15 : CF := ⟨0, (.seq (.reg [⟨.l 0, .a (.alloc [(.str 0 0), (.int .i64 0), .nils, .nils, .nils, .nils]), [], none, 0, 0⟩])
 (.seq (.reg [⟨.t 3, .p (.build [(.int .i64 0), (.int .i64 0)] [(0, 1)]), [.c (.int .i64 1)], none, 0, 0⟩, ⟨.t 4, .p (.build [(.int .i64 0), (.int .i64 0)] [(0, 1), (1, 1)]), [.c (.int .i64 3), .c (.int .i64 1)], none, 0, 0⟩, ⟨.l 1, .a (.alloc [(.int .i64 0), (.int .i64 0)]), [], none, 0, 0⟩, ⟨.l 2, .a (.alloc [(.int .i64 0), (.int .i64 0)]), [], none, 0, 0⟩, ⟨.no, .e (.store 2), [.l 1, .t 3], none, 0, 0⟩, ⟨.no, .e (.store 2), [.l 2, .t 4], none, 0, 0⟩])
 (.seq (.reg [⟨.t 5, .p (.build [(.int .i64 0), (.int .i64 0), (.int .i64 0), (.str 0 0), (.str 0 0), (.int .i64 0), .nils, (.str 0 0), (.int .i64 0)] [(0, 1)]), [.c (.int .i64 1)], none, 0, 0⟩, ⟨.t 6, .p (.build [(.int .i64 0), (.int .i64 0), (.int .i64 0), (.str 0 0), (.str 0 0), (.int .i64 0), .nils, (.str 0 0), (.int .i64 0)] [(0, 1), (1, 1)]), [.c (.int .i64 1), .c (.int .i64 1)], none, 0, 0⟩, ⟨.t 7, .p (.build [(.int .i64 0), (.int .i64 0), (.int .i64 0), (.str 0 0), (.str 0 0), (.int .i64 0), .nils, (.str 0 0), (.int .i64 0)] [(0, 1), (3, 1)]), [.c (.int .i64 2), .c (.str 1 109)], none, 0, 0⟩, ⟨.t 8, .p (.build [(.int .i64 0), (.int .i64 0), (.int .i64 0), (.str 0 0), (.str 0 0), (.int .i64 0), .nils, (.str 0 0), (.int .i64 0)] [(0, 1), (3, 1)]), [.c (.int .i64 2), .c (.str 1 102)], none, 0, 0⟩, ⟨.t 9, .p (.build [(.int .i64 0), (.int .i64 0), (.int .i64 0), (.str 0 0), (.str 0 0), (.int .i64 0), .nils, (.str 0 0), (.int .i64 0)] [(0, 1), (3, 1)]), [.c (.int .i64 2), .c (.str 4 1701736292)], none, 0, 0⟩, ⟨.t 10, .a (.bslice [(.int .i64 0), (.int .i64 0), (.int .i64 0), (.str 0 0), (.str 0 0), (.int .i64 0), .nils, (.str 0 0), (.int .i64 0)] 5 9 [(0, 9), (9, 9), (18, 9), (27, 9), (36, 9)]), [.t 5, .t 6, .t 7, .t 8, .t 9], none, 0, 0⟩, ⟨.t 11, .p (.build [(.str 0 0), (.int .i64 0), (.bool false), (.int .i64 0)] [(0, 1), (1, 1), (2, 1)]), [.c (.str 1 102), .c (.int .i64 1), .c (.bool true)], none, 0, 0⟩, ⟨.t 12, .a (.bslice [(.str 0 0), (.int .i64 0), (.bool false), (.int .i64 0)] 1 4 [(0, 4)]), [.t 11], none, 0, 0⟩, ⟨.t 13, .r (.load true 2), [.l 1], none, 0, 0⟩, ⟨.t 14, .a (.bslice [(.int .i64 0), (.int .i64 0)] 1 2 [(0, 2)]), [.t 13], none, 0, 0⟩, ⟨.t 15, .p (.build [(.int .i64 0), (.int .i64 0)] [(0, 1), (1, 1)]), [.c (.int .i64 0), .c (.int .i64 3)], none, 0, 0⟩, ⟨.t 16, .a (.bslice [(.int .i64 0), (.int .i64 0)] 1 2 [(0, 2)]), [.t 15], none, 0, 0⟩, ⟨.t 17, .p (.build [(.int .i64 0), (.int .i64 0), (.int .i64 0), .nils, (.int .i64 0), (.int .i64 0), (.int .i64 0), (.str 0 0), .nils, .nils] [(0, 1), (3, 1), (8, 1), (4, 1)]), [.c (.int .i64 12), .t 14, .t 16, .c (.int .i64 1)], none, 0, 0⟩, ⟨.t 18, .r (.load true 2), [.l 1], none, 0, 0⟩, ⟨.t 19, .r (.load true 2), [.l 1], none, 0, 0⟩, ⟨.t 20, .r (.load true 2), [.l 2], none, 0, 0⟩, ⟨.t 21, .a (.bslice [(.int .i64 0), (.int .i64 0)] 2 2 [(0, 2), (2, 2)]), [.t 19, .t 20], none, 0, 0⟩, ⟨.t 22, .p (.build [(.int .i64 0), (.int .i64 0), (.int .i64 0), .nils, (.int .i64 0), (.int .i64 0), (.int .i64 0), (.str 0 0), .nils, .nils] [(0, 1), (1, 2), (3, 1), (7, 1), (6, 1)]), [.c (.int .i64 14), .t 18, .t 21, .c (.str 1 45), .c (.int .i64 1)], none, 0, 0⟩, ⟨.t 23, .p (.build [(.int .i64 0), (.int .i64 0)] [(0, 1), (1, 1)]), [.c (.int .i64 3), .c (.int .i64 2)], none, 0, 0⟩, ⟨.t 24, .p (.build [(.int .i64 0), (.int .i64 0)] [(0, 1), (1, 1)]), [.c (.int .i64 3), .c (.int .i64 3)], none, 0, 0⟩, ⟨.t 25, .a (.bslice [(.int .i64 0), (.int .i64 0)] 2 2 [(0, 2), (2, 2)]), [.t 23, .t 24], none, 0, 0⟩, ⟨.t 26, .p (.build [(.int .i64 0), (.int .i64 0), (.int .i64 0), .nils, (.int .i64 0), (.int .i64 0), (.int .i64 0), (.str 0 0), .nils, .nils] [(0, 1), (3, 1), (5, 1)]), [.c (.int .i64 19), .t 25, .c (.int .i64 1)], none, 0, 0⟩, ⟨.t 27, .r (.load true 2), [.l 1], none, 0, 0⟩, ⟨.t 28, .p (.build [(.int .i64 0), (.int .i64 0)] [(0, 1), (1, 1)]), [.c (.int .i64 3), .c (.int .i64 4)], none, 0, 0⟩, ⟨.t 29, .a (.bslice [(.int .i64 0), (.int .i64 0)] 1 2 [(0, 2)]), [.t 28], none, 0, 0⟩, ⟨.t 30, .p (.build [(.int .i64 0), (.int .i64 0), (.int .i64 0), .nils, (.int .i64 0), (.int .i64 0), (.int .i64 0), (.str 0 0), .nils, .nils] [(0, 1), (1, 2), (3, 1)]), [.c (.int .i64 1), .t 27, .t 29], none, 0, 0⟩, ⟨.t 31, .p (.build [(.int .i64 0), (.int .i64 0), (.int .i64 0), .nils, (.int .i64 0), (.int .i64 0), (.int .i64 0), (.str 0 0), .nils, .nils] [(0, 1)]), [.c (.int .i64 26)], none, 0, 0⟩, ⟨.t 32, .a (.bslice [(.int .i64 0), (.int .i64 0), (.int .i64 0), .nils, (.int .i64 0), (.int .i64 0), (.int .i64 0), (.str 0 0), .nils, .nils] 5 10 [(0, 10), (10, 10), (20, 10), (30, 10), (40, 10)]), [.t 17, .t 22, .t 26, .t 30, .t 31], none, 0, 0⟩, ⟨.t 33, .p (.build [(.str 0 0), (.int .i64 0), .nils, .nils, .nils, .nils] [(0, 1), (1, 1), (2, 1), (3, 1), (5, 1)]), [.c (.str 1 109), .c (.int .i64 1), .t 10, .t 12, .t 32], none, 0, 0⟩, ⟨.no, .e (.store 6), [.l 0, .t 33], none, 0, 0⟩])
 .ret))),
 [.cell (.l 0) true 6]⟩
theorem cf15_ok : compF TP Tryz.f15 = some cf15 := by kernel_rfl
def cf16 : CF := ⟨4, (.seq (.reg [⟨.l 8, .p (.mv), [.c (.int .i64 0)], none, 0, 0⟩])
 (.seq (.seq (.reg [⟨.t 9, .p (.mv), [.l 0], none, 0, 0⟩, ⟨.t 10, .call 39, [.t 9], none, 0, 0⟩, ⟨.l 11, .p (.un .not), [.t 10], none, 0, 0⟩])
 (.cond (.l 11) (.seq (.reg [⟨.l 8, .p (.mv), [.c (.int .i64 1)], none, 0, 0⟩])
 .ret)
 .skip))
 (.seq (.seq (.reg [⟨.t 12, .p (.mv), [.l 1], none, 0, 0⟩, ⟨.t 13, .call 47, [.t 12], none, 0, 0⟩, ⟨.t 14, .p (.un .not), [.t 13], none, 0, 0⟩, ⟨.t 15, .p (.mv), [.t 14], none, 0, 0⟩, ⟨.t 16, .p (.mv), [.l 2], (some (.t 15, false)), 0, 0⟩, ⟨.t 17, .call 47, [.t 16], (some (.t 15, false)), 0, 0⟩, ⟨.t 18, .p (.un .not), [.t 17], (some (.t 15, false)), 0, 0⟩, ⟨.t 19, .p (.pick), [.t 15, .c (.bool true), .t 18], none, 0, 0⟩, ⟨.t 20, .p (.mv), [.t 19], none, 0, 0⟩, ⟨.t 21, .p (.mv), [.l 3], (some (.t 20, false)), 0, 0⟩, ⟨.t 22, .call 48, [.t 21], (some (.t 20, false)), 0, 0⟩, ⟨.t 23, .p (.un .not), [.t 22], (some (.t 20, false)), 0, 0⟩, ⟨.t 24, .p (.pick), [.t 20, .c (.bool true), .t 23], none, 0, 0⟩, ⟨.t 25, .p (.mv), [.t 24], none, 0, 0⟩, ⟨.t 26, .p (.mv), [.l 0], (some (.t 25, false)), 0, 0⟩, ⟨.t 27, .p (.nilc), [.t 26], (some (.t 25, false)), 0, 0⟩, ⟨.t 28, .p (.fa 327), [.t 27], (some (.t 25, false)), 0, 0⟩, ⟨.t 29, .r (.load false 1), [.t 28], (some (.t 25, false)), 0, 0⟩, ⟨.t 30, .p (.pick), [.t 25, .c (.bool true), .t 29], none, 0, 0⟩, ⟨.t 31, .p (.mv), [.t 30], none, 0, 0⟩, ⟨.t 32, .p (.mv), [.l 0], (some (.t 31, false)), 0, 0⟩, ⟨.t 33, .p (.nilc), [.t 32], (some (.t 31, false)), 0, 0⟩, ⟨.t 34, .p (.fa 328), [.t 33], (some (.t 31, false)), 0, 0⟩, ⟨.t 35, .r (.load false 1), [.t 34], (some (.t 31, false)), 0, 0⟩, ⟨.l 36, .p (.pick), [.t 31, .c (.bool true), .t 35], none, 0, 0⟩])
 (.cond (.l 36) (.seq (.reg [⟨.l 8, .p (.mv), [.c (.int .i64 2)], none, 0, 0⟩])
 .ret)
 .skip))
 (.seq (.reg [⟨.t 37, .p (.mv), [.l 0], none, 0, 0⟩, ⟨.t 38, .p (.nilc), [.t 37], none, 0, 0⟩, ⟨.t 39, .p (.fa 327), [.t 38], none, 0, 0⟩, ⟨.no, .e (.store 1), [.t 39, .c (.bool true)], none, 0, 0⟩])
 (.seq (.reg [⟨.t 40, .p (.mv), [.l 0], none, 0, 0⟩, ⟨.t 41, .p (.mv), [.l 3], none, 0, 0⟩, ⟨.t 42, .call 49, [.t 40, .t 41], none, 0, 0⟩])
 (.seq (.reg [⟨.t 43, .p (.mv), [.l 0], none, 0, 0⟩, ⟨.t 44, .p (.mv), [.l 1], none, 0, 0⟩, ⟨.t 45, .p (.mv), [.l 2], none, 0, 0⟩, ⟨.t 46, .call 50, [.t 43, .t 44, .t 45, .c (.bool true)], none, 0, 0⟩])
 (.seq (.reg [⟨.l 8, .p (.mv), [.c (.int .i64 0)], none, 0, 0⟩])
 .ret))))))),
 [.tmp (.l 8)]⟩
theorem cf16_ok : compF TP Tryz.f16 = some cf16 := by kernel_rfl
def cf17 : CF := ⟨3, (.seq (.reg [⟨.l 4, .a (.box), [.l 1], none, 0, 0⟩, ⟨.l 6, .p (.mv), [.c (.int .i64 0)], none, 0, 0⟩])
 (.seq (.seq (.reg [⟨.t 7, .p (.mv), [.l 0], none, 0, 0⟩, ⟨.t 8, .call 39, [.t 7], none, 0, 0⟩, ⟨.l 9, .p (.un .not), [.t 8], none, 0, 0⟩])
 (.cond (.l 9) (.seq (.reg [⟨.l 6, .p (.mv), [.c (.int .i64 1)], none, 0, 0⟩])
 .ret)
 .skip))
 (.seq (.seq (.reg [⟨.t 10, .r (.load true 9), [.l 4], none, 0, 0⟩, ⟨.t 11, .call 29, [.t 10], none, 0, 0⟩, ⟨.t 12, .p (.un .not), [.t 11], none, 0, 0⟩, ⟨.t 13, .p (.mv), [.t 12], none, 0, 0⟩, ⟨.t 14, .p (.mv), [.l 2], (some (.t 13, false)), 0, 0⟩, ⟨.t 15, .call 48, [.t 14], (some (.t 13, false)), 0, 0⟩, ⟨.t 16, .p (.un .not), [.t 15], (some (.t 13, false)), 0, 0⟩, ⟨.t 17, .p (.pick), [.t 13, .c (.bool true), .t 16], none, 0, 0⟩, ⟨.t 18, .p (.mv), [.t 17], none, 0, 0⟩, ⟨.t 19, .p (.mv), [.l 0], (some (.t 18, false)), 0, 0⟩, ⟨.t 20, .p (.nilc), [.t 19], (some (.t 18, false)), 0, 0⟩, ⟨.t 21, .p (.fa 327), [.t 20], (some (.t 18, false)), 0, 0⟩, ⟨.t 22, .r (.load false 1), [.t 21], (some (.t 18, false)), 0, 0⟩, ⟨.t 23, .p (.pick), [.t 18, .c (.bool true), .t 22], none, 0, 0⟩, ⟨.t 24, .p (.mv), [.t 23], none, 0, 0⟩, ⟨.t 25, .p (.mv), [.l 0], (some (.t 24, false)), 0, 0⟩, ⟨.t 26, .p (.nilc), [.t 25], (some (.t 24, false)), 0, 0⟩, ⟨.t 27, .p (.fa 328), [.t 26], (some (.t 24, false)), 0, 0⟩, ⟨.t 28, .r (.load false 1), [.t 27], (some (.t 24, false)), 0, 0⟩, ⟨.l 29, .p (.pick), [.t 24, .c (.bool true), .t 28], none, 0, 0⟩])
 (.cond (.l 29) (.seq (.reg [⟨.l 6, .p (.mv), [.c (.int .i64 2)], none, 0, 0⟩])
 .ret)
 .skip))
 (.seq (.reg [⟨.t 30, .p (.mv), [.l 0], none, 0, 0⟩, ⟨.t 31, .p (.nilc), [.t 30], none, 0, 0⟩, ⟨.t 32, .p (.fa 327), [.t 31], none, 0, 0⟩, ⟨.no, .e (.store 1), [.t 32, .c (.bool true)], none, 0, 0⟩])
 (.seq (.reg [⟨.t 33, .p (.mv), [.l 0], none, 0, 0⟩, ⟨.t 34, .p (.mv), [.l 2], none, 0, 0⟩, ⟨.t 35, .call 49, [.t 33, .t 34], none, 0, 0⟩])
 (.seq (.reg [⟨.t 36, .p (.mv), [.l 0], none, 0, 0⟩, ⟨.t 37, .p (.mv), [.l 0], none, 0, 0⟩, ⟨.t 38, .r (.load true 9), [.l 4], none, 0, 0⟩, ⟨.t 39, .call 51, [.t 37, .t 38], none, 0, 0⟩, ⟨.t 40, .p (.nilc), [.t 36], none, 0, 0⟩, ⟨.t 41, .p (.fa 320), [.t 40], none, 0, 0⟩, ⟨.no, .e (.store 1), [.t 41, .t 39], none, 0, 0⟩])
 (.seq (.reg [⟨.t 42, .p (.mv), [.l 0], none, 0, 0⟩, ⟨.t 43, .call 52, [.t 42, .c (.bool true)], none, 0, 0⟩])
 (.seq (.reg [⟨.l 6, .p (.mv), [.c (.int .i64 0)], none, 0, 0⟩])
 .ret)))))))),
 [.tmp (.l 6)]⟩
theorem cf17_ok : compF TP Tryz.f17 = some cf17 := by kernel_rfl
def cf18 : CF := ⟨2, (.seq (.reg [⟨.l 4, .p (.mv), [.c (.int .i64 0)], none, 0, 0⟩])
 (.seq (.seq (.reg [⟨.t 5, .p (.mv), [.l 0], none, 0, 0⟩, ⟨.t 6, .call 39, [.t 5], none, 0, 0⟩, ⟨.l 7, .p (.un .not), [.t 6], none, 0, 0⟩])
 (.cond (.l 7) (.seq (.reg [⟨.l 4, .p (.mv), [.c (.int .i64 1)], none, 0, 0⟩])
 .ret)
 .skip))
 (.seq (.seq (.reg [⟨.t 8, .p (.mv), [.l 1], none, 0, 0⟩, ⟨.t 9, .p (.bin .lss), [.t 8, .c (.int .i64 0)], none, 0, 0⟩, ⟨.t 10, .p (.mv), [.t 9], none, 0, 0⟩, ⟨.t 11, .p (.mv), [.l 1], (some (.t 10, false)), 0, 0⟩, ⟨.t 12, .p (.bin .gtr), [.t 11, .c (.int .i64 2147483647)], (some (.t 10, false)), 0, 0⟩, ⟨.l 13, .p (.pick), [.t 10, .c (.bool true), .t 12], none, 0, 0⟩])
 (.cond (.l 13) (.seq (.reg [⟨.l 4, .p (.mv), [.c (.int .i64 2)], none, 0, 0⟩])
 .ret)
 .skip))
 (.seq (.reg [⟨.t 14, .p (.mv), [.l 0], none, 0, 0⟩, ⟨.t 15, .p (.mv), [.l 1], none, 0, 0⟩, ⟨.t 16, .p (.nilc), [.t 14], none, 0, 0⟩, ⟨.t 17, .p (.fa 326), [.t 16], none, 0, 0⟩, ⟨.no, .e (.store 1), [.t 17, .t 15], none, 0, 0⟩])
 (.seq (.reg [⟨.l 4, .p (.mv), [.c (.int .i64 0)], none, 0, 0⟩])
 .ret))))),
 [.tmp (.l 4)]⟩
theorem cf18_ok : compF TP Tryz.f18 = some cf18 := by kernel_rfl
def cf19 : CF := ⟨2, (.seq (.reg [⟨.l 3, .a (.box), [.l 1], none, 0, 0⟩, ⟨.l 4, .p (.mv), [.c (.int .i64 0)], none, 0, 0⟩])
 (.seq (.seq (.reg [⟨.t 5, .p (.mv), [.l 0], none, 0, 0⟩, ⟨.t 6, .call 39, [.t 5], none, 0, 0⟩, ⟨.l 7, .p (.un .not), [.t 6], none, 0, 0⟩])
 (.cond (.l 7) (.seq (.reg [⟨.l 4, .p (.mv), [.c (.int .i64 1)], none, 0, 0⟩])
 .ret)
 .skip))
 (.seq (.seq (.reg [⟨.t 8, .p (.mv), [.l 0], none, 0, 0⟩, ⟨.t 9, .call 53, [.t 8, .c (.int .i64 4)], none, 0, 0⟩, ⟨.t 10, .p (.un .not), [.t 9], none, 0, 0⟩, ⟨.t 11, .p (.mv), [.t 10], none, 0, 0⟩, ⟨.t 12, .r (.load true 9), [.l 3], (some (.t 11, false)), 0, 0⟩, ⟨.t 13, .call 29, [.t 12], (some (.t 11, false)), 0, 0⟩, ⟨.t 14, .p (.un .not), [.t 13], (some (.t 11, false)), 0, 0⟩, ⟨.l 15, .p (.pick), [.t 11, .c (.bool true), .t 14], none, 0, 0⟩])
 (.cond (.l 15) (.seq (.reg [⟨.l 4, .p (.mv), [.c (.int .i64 2)], none, 0, 0⟩])
 .ret)
 .skip))
 (.seq (.reg [⟨.t 16, .p (.mv), [.l 0], none, 0, 0⟩, ⟨.t 17, .call 38, [.t 16], none, 0, 0⟩])
 (.seq (.regD [⟨.t 18, .p (.mv), [.l 0], none, 0, 1⟩, ⟨.t 19, .p (.mv), [.l 0], none, 0, 0⟩, ⟨.t 20, .r (.load true 9), [.l 3], none, 0, 0⟩, ⟨.t 22, .p (.nilc), [.t 18], none, 0, 1⟩, ⟨.t 23, .p (.fa 54), [.t 22], none, 0, 1⟩, ⟨.t 21, .call 51, [.t 19, .t 20], none, 0, 1⟩, ⟨.t 24, .p (.ixarrp 256 1), [.t 23, .c (.int .i64 0)], none, 1, 1⟩, ⟨.no, .e (.store 1), [.t 24, .t 21], none, 1, 2⟩])
 (.seq (.reg [⟨.t 25, .p (.mv), [.l 0], none, 0, 0⟩, ⟨.t 26, .p (.nilc), [.t 25], none, 0, 0⟩, ⟨.t 27, .p (.fa 329), [.t 26], none, 0, 0⟩, ⟨.no, .e (.store 1), [.t 27, .c (.int .i64 1)], none, 0, 0⟩])
 (.seq (.reg [⟨.l 4, .p (.mv), [.c (.int .i64 0)], none, 0, 0⟩])
 .ret))))))),
 [.tmp (.l 4)]⟩
theorem cf19_ok : compF TP Tryz.f19 = some cf19 := by kernel_rfl
def cf20 : CF := ⟨3, (.seq (.reg [⟨.l 5, .a (.box), [.l 2], none, 0, 0⟩, ⟨.l 6, .p (.mv), [.c (.int .i64 0)], none, 0, 0⟩])
 (.seq (.seq (.reg [⟨.t 7, .p (.mv), [.l 0], none, 0, 0⟩, ⟨.t 8, .call 39, [.t 7], none, 0, 0⟩, ⟨.l 9, .p (.un .not), [.t 8], none, 0, 0⟩])
 (.cond (.l 9) (.seq (.reg [⟨.l 6, .p (.mv), [.c (.int .i64 1)], none, 0, 0⟩])
 .ret)
 .skip))
 (.seq (.seq (.reg [⟨.t 10, .p (.mv), [.l 0], none, 0, 0⟩, ⟨.t 11, .call 53, [.t 10, .c (.int .i64 4)], none, 0, 0⟩, ⟨.t 12, .p (.un .not), [.t 11], none, 0, 0⟩, ⟨.t 13, .p (.mv), [.t 12], none, 0, 0⟩, ⟨.t 14, .p (.mv), [.l 0], (some (.t 13, true)), 0, 0⟩, ⟨.t 15, .call 53, [.t 14, .c (.int .i64 5)], (some (.t 13, true)), 0, 0⟩, ⟨.t 16, .p (.un .not), [.t 15], (some (.t 13, true)), 0, 0⟩, ⟨.t 17, .p (.pick), [.t 13, .t 16, .c (.bool false)], none, 0, 0⟩, ⟨.t 18, .p (.mv), [.t 17], none, 0, 0⟩, ⟨.t 19, .p (.mv), [.l 0], (some (.t 18, true)), 0, 0⟩, ⟨.t 20, .call 53, [.t 19, .c (.int .i64 6)], (some (.t 18, true)), 0, 0⟩, ⟨.t 21, .p (.un .not), [.t 20], (some (.t 18, true)), 0, 0⟩, ⟨.t 22, .p (.pick), [.t 18, .t 21, .c (.bool false)], none, 0, 0⟩, ⟨.t 23, .p (.mv), [.t 22], none, 0, 0⟩, ⟨.t 24, .p (.mv), [.l 1], (some (.t 23, false)), 0, 0⟩, ⟨.t 25, .p (.bin .neq), [.t 24, .c (.str 5 491496043109)], (some (.t 23, false)), 0, 0⟩, ⟨.t 26, .p (.mv), [.t 25], (some (.t 23, false)), 0, 0⟩, ⟨.t 27, .p (.mv), [.l 1], (some (.t 26, true)), 0, 0⟩, ⟨.t 28, .p (.bin .neq), [.t 27, .c (.str 4 1953069157)], (some (.t 26, true)), 0, 0⟩, ⟨.t 29, .p (.pick), [.t 26, .t 28, .c (.bool false)], (some (.t 23, false)), 0, 0⟩, ⟨.t 30, .p (.mv), [.t 29], (some (.t 23, false)), 0, 0⟩, ⟨.t 31, .p (.mv), [.l 1], (some (.t 30, true)), 0, 0⟩, ⟨.t 32, .p (.bin .neq), [.t 31, .c (.str 5 512970877044)], (some (.t 30, true)), 0, 0⟩, ⟨.t 33, .p (.pick), [.t 30, .t 32, .c (.bool false)], (some (.t 23, false)), 0, 0⟩, ⟨.t 34, .p (.pick), [.t 23, .c (.bool true), .t 33], none, 0, 0⟩, ⟨.t 35, .p (.mv), [.t 34], none, 0, 0⟩, ⟨.t 36, .r (.load true 9), [.l 5], (some (.t 35, false)), 0, 0⟩, ⟨.t 37, .call 29, [.t 36], (some (.t 35, false)), 0, 0⟩, ⟨.t 38, .p (.un .not), [.t 37], (some (.t 35, false)), 0, 0⟩, ⟨.l 39, .p (.pick), [.t 35, .c (.bool true), .t 38], none, 0, 0⟩])
 (.cond (.l 39) (.seq (.reg [⟨.l 6, .p (.mv), [.c (.int .i64 2)], none, 0, 0⟩])
 .ret)
 .skip))
 (.seq (.reg [⟨.t 40, .p (.mv), [.l 0], none, 0, 0⟩, ⟨.t 41, .p (.mv), [.l 1], none, 0, 0⟩, ⟨.t 42, .r (.load true 9), [.l 5], none, 0, 0⟩, ⟨.t 43, .call 35, [.t 42], none, 0, 0⟩, ⟨.t 44, .call 54, [.t 40, .t 41, .t 43], none, 0, 0⟩])
 (.seq (.reg [⟨.l 6, .p (.mv), [.c (.int .i64 0)], none, 0, 0⟩])
 .ret))))),
 [.tmp (.l 6)]⟩
theorem cf20_ok : compF TP Tryz.f20 = some cf20 := by kernel_rfl
def cf21 : CF := ⟨2, (.seq (.reg [⟨.l 4, .p (.mv), [.c (.int .i64 0)], none, 0, 0⟩])
 (.seq (.seq (.reg [⟨.t 14, .p (.mv), [.l 0], none, 0, 0⟩, ⟨.t 15, .call 39, [.t 14], none, 0, 0⟩, ⟨.l 16, .p (.un .not), [.t 15], none, 0, 0⟩])
 (.cond (.l 16) (.seq (.reg [⟨.l 4, .p (.mv), [.c (.int .i64 1)], none, 0, 0⟩])
 .ret)
 .skip))
 (.seq (.seq (.reg [⟨.t 17, .p (.mv), [.l 1], none, 0, 0⟩, ⟨.t 18, .r (.eq (.one .p) false), [.t 17, .c .nilp], none, 0, 0⟩, ⟨.t 19, .p (.mv), [.t 18], none, 0, 0⟩, ⟨.t 20, .p (.mv), [.l 1], (some (.t 19, false)), 0, 0⟩, ⟨.t 21, .call 55, [.t 20], (some (.t 19, false)), 0, 0⟩, ⟨.t 22, .p (.bin .eql), [.t 21, .c (.str 0 0)], (some (.t 19, false)), 0, 0⟩, ⟨.l 23, .p (.pick), [.t 19, .c (.bool true), .t 22], none, 0, 0⟩])
 (.cond (.l 23) (.seq (.reg [⟨.l 4, .p (.mv), [.c (.int .i64 2)], none, 0, 0⟩])
 .ret)
 .skip))
 (.seq (.block 0 (.seq (.reg [⟨.t 25, .p (.mv), [.l 0], none, 0, 0⟩, ⟨.t 26, .call 53, [.t 25, .c (.int .i64 5)], none, 0, 0⟩, ⟨.l 24, .p (.mv), [.t 26], none, 0, 0⟩])
 (.cond (.l 24) (.seq (.regD [⟨.t 28, .p (.mv), [.l 1], none, 0, 0⟩, ⟨.t 29, .p (.mv), [.l 0], none, 0, 0⟩, ⟨.t 30, .p (.nilc), [.t 29], none, 0, 0⟩, ⟨.t 31, .p (.fa 330), [.t 30], none, 0, 0⟩, ⟨.t 32, .p (.fa 13), [.t 31], none, 0, 0⟩, ⟨.t 33, .r (.load false 1), [.t 32], none, 0, 0⟩, ⟨.t 34, .p (.mv), [.l 0], none, 0, 0⟩, ⟨.t 35, .p (.nilc), [.t 34], none, 0, 0⟩, ⟨.t 36, .p (.fa 330), [.t 35], none, 0, 0⟩, ⟨.t 37, .p (.fa 14), [.t 36], none, 0, 0⟩, ⟨.t 38, .r (.load false 1), [.t 37], none, 0, 0⟩, ⟨.t 39, .p (.leng .sl), [.t 38], none, 0, 0⟩, ⟨.t 40, .call 56, [.t 28, .t 33, .t 39], none, 0, 1⟩, ⟨.t 27, .p (.mv), [.t 40], none, 1, 1⟩, ⟨.t 41, .p (.ext 0), [.t 27], none, 1, 1⟩, ⟨.t 42, .p (.ext 1), [.t 27], none, 1, 1⟩, ⟨.l 5, .p (.mv), [.t 41], none, 1, 1⟩, ⟨.l 6, .p (.mv), [.t 42], none, 1, 1⟩])
 (.seq (.seq (.regD [⟨.t 43, .p (.mv), [.l 1], none, 0, 0⟩, ⟨.t 45, .p (.mv), [.l 0], none, 0, 1⟩, ⟨.t 46, .p (.nilc), [.t 45], none, 0, 1⟩, ⟨.t 47, .p (.fa 330), [.t 46], none, 0, 1⟩, ⟨.t 48, .p (.fa 12), [.t 47], none, 0, 1⟩, ⟨.t 49, .r (.load false 1), [.t 48], none, 0, 1⟩, ⟨.t 44, .call 55, [.t 43], none, 0, 1⟩, ⟨.t 50, .p (.bin .neq), [.t 44, .t 49], none, 1, 1⟩, ⟨.t 51, .p (.mv), [.t 50], none, 1, 1⟩, ⟨.t 52, .p (.mv), [.l 6], (some (.t 51, false)), 1, 1⟩, ⟨.t 53, .p (.un .not), [.t 52], (some (.t 51, false)), 1, 1⟩, ⟨.l 54, .p (.pick), [.t 51, .c (.bool true), .t 53], none, 1, 1⟩])
 (.cond (.l 54) (.seq (.reg [⟨.l 4, .p (.mv), [.c (.int .i64 2)], none, 0, 0⟩])
 .ret)
 .skip))
 (.seq (.reg [⟨.t 55, .p (.mv), [.l 0], none, 0, 0⟩, ⟨.t 56, .p (.mv), [.l 1], none, 0, 0⟩, ⟨.t 57, .call 57, [.t 55, .t 56], none, 0, 0⟩, ⟨.l 7, .p (.mv), [.t 57], none, 0, 0⟩])
 (.seq (.regD [⟨.t 58, .p (.mv), [.l 0], none, 0, 0⟩, ⟨.t 59, .p (.mv), [.l 7], none, 0, 0⟩, ⟨.t 60, .p (.mv), [.l 7], none, 0, 0⟩, ⟨.t 61, .p (.nilc), [.t 60], none, 0, 0⟩, ⟨.t 62, .p (.fa 1), [.t 61], none, 0, 0⟩, ⟨.t 63, .p (.fa 3), [.t 62], none, 0, 0⟩, ⟨.t 64, .r (.load false 1), [.t 63], none, 0, 0⟩, ⟨.t 65, .p (.mv), [.l 5], none, 0, 0⟩, ⟨.t 66, .p (.ixsl 4), [.t 64, .t 65], none, 0, 0⟩, ⟨.t 67, .p (.fa 3), [.t 66], none, 0, 0⟩, ⟨.t 68, .r (.load false 1), [.t 67], none, 0, 0⟩, ⟨.t 69, .p (.mv), [.l 0], none, 0, 0⟩, ⟨.t 70, .p (.nilc), [.t 69], none, 0, 0⟩, ⟨.t 71, .p (.fa 346), [.t 70], none, 0, 0⟩, ⟨.t 72, .r (.load false 1), [.t 71], none, 0, 0⟩, ⟨.t 73, .call 58, [.t 58, .t 59, .t 68, .t 72], none, 0, 1⟩])
 (.seq (.reg [⟨.l 4, .p (.mv), [.c (.int .i64 0)], none, 0, 0⟩])
 .ret)))))
 (.seq (.reg [⟨.t 75, .p (.mv), [.l 0], none, 0, 0⟩, ⟨.t 76, .call 53, [.t 75, .c (.int .i64 6)], none, 0, 0⟩, ⟨.l 74, .p (.mv), [.t 76], none, 0, 0⟩])
 (.cond (.l 74) (.seq (.reg [⟨.t 77, .p (.mv), [.l 0], none, 0, 0⟩, ⟨.t 78, .p (.nilc), [.t 77], none, 0, 0⟩, ⟨.t 79, .p (.fa 330), [.t 78], none, 0, 0⟩, ⟨.t 80, .p (.fa 2), [.t 79], none, 0, 0⟩, ⟨.t 81, .r (.load true 9), [.t 80], none, 0, 0⟩, ⟨.l 8, .a (.alloc [(.int .i64 0), (.int .i64 0), (.int .i64 0), (.str 0 0), (.str 0 0), (.int .i64 0), .nils, (.str 0 0), (.int .i64 0)]), [], none, 0, 0⟩, ⟨.no, .e (.store 9), [.l 8, .t 81], none, 0, 0⟩])
 (.seq (.reg [⟨.t 83, .p (.mv), [.l 1], none, 0, 0⟩, ⟨.t 84, .p (.fa 1), [.l 8], none, 0, 0⟩, ⟨.t 85, .r (.load false 1), [.t 84], none, 0, 0⟩, ⟨.t 86, .call 59, [.t 83, .t 85], none, 0, 0⟩, ⟨.t 82, .p (.mv), [.t 86], none, 0, 0⟩, ⟨.t 87, .p (.ext 0), [.t 82], none, 0, 0⟩, ⟨.t 88, .p (.ext 1), [.t 82], none, 0, 0⟩, ⟨.l 9, .a (.alloc [(.int .i64 0), (.int .i64 0), (.int .i64 0)]), [], none, 0, 0⟩, ⟨.no, .e (.store 3), [.l 9, .t 87], none, 0, 0⟩, ⟨.l 10, .p (.mv), [.t 88], none, 0, 0⟩])
 (.seq (.seq (.regD [⟨.t 89, .p (.mv), [.l 1], none, 0, 0⟩, ⟨.t 91, .p (.fa 3), [.l 8], none, 0, 1⟩, ⟨.t 92, .r (.load false 1), [.t 91], none, 0, 1⟩, ⟨.t 90, .call 55, [.t 89], none, 0, 1⟩, ⟨.t 93, .p (.bin .neq), [.t 90, .t 92], none, 1, 1⟩, ⟨.t 94, .p (.mv), [.t 93], none, 1, 1⟩, ⟨.t 95, .p (.mv), [.l 1], (some (.t 94, false)), 1, 1⟩, ⟨.t 97, .p (.fa 2), [.l 8], (some (.t 94, false)), 1, 2⟩, ⟨.t 98, .r (.load false 1), [.t 97], (some (.t 94, false)), 1, 2⟩, ⟨.t 96, .call 60, [.t 95], (some (.t 94, false)), 1, 2⟩, ⟨.t 99, .p (.bin .neq), [.t 96, .t 98], (some (.t 94, false)), 2, 2⟩, ⟨.t 100, .p (.pick), [.t 94, .c (.bool true), .t 99], none, 2, 2⟩, ⟨.t 101, .p (.mv), [.t 100], none, 2, 2⟩, ⟨.t 102, .p (.mv), [.l 10], (some (.t 101, false)), 2, 2⟩, ⟨.t 103, .p (.un .not), [.t 102], (some (.t 101, false)), 2, 2⟩, ⟨.t 104, .p (.pick), [.t 101, .c (.bool true), .t 103], none, 2, 2⟩, ⟨.t 105, .p (.mv), [.t 104], none, 2, 2⟩, ⟨.t 106, .p (.fa 0), [.l 9], (some (.t 105, false)), 2, 2⟩, ⟨.t 107, .r (.load false 1), [.t 106], (some (.t 105, false)), 2, 2⟩, ⟨.t 108, .p (.fa 5), [.l 8], (some (.t 105, false)), 2, 2⟩, ⟨.t 109, .r (.load false 1), [.t 108], (some (.t 105, false)), 2, 2⟩, ⟨.t 110, .p (.bin .neq), [.t 107, .t 109], (some (.t 105, false)), 2, 2⟩, ⟨.t 111, .p (.pick), [.t 105, .c (.bool true), .t 110], none, 2, 2⟩, ⟨.t 112, .p (.mv), [.t 111], none, 2, 2⟩, ⟨.t 113, .p (.fa 1), [.l 9], (some (.t 112, false)), 2, 2⟩, ⟨.t 114, .r (.load false 1), [.t 113], (some (.t 112, false)), 2, 2⟩, ⟨.t 115, .p (.fa 6), [.l 8], (some (.t 112, false)), 2, 2⟩, ⟨.t 116, .r (.load false 1), [.t 115], (some (.t 112, false)), 2, 2⟩, ⟨.t 117, .p (.leng .sl), [.t 116], (some (.t 112, false)), 2, 2⟩, ⟨.t 118, .p (.bin .neq), [.t 114, .t 117], (some (.t 112, false)), 2, 2⟩, ⟨.l 119, .p (.pick), [.t 112, .c (.bool true), .t 118], none, 2, 2⟩])
 (.cond (.l 119) (.seq (.reg [⟨.l 4, .p (.mv), [.c (.int .i64 2)], none, 0, 0⟩])
 .ret)
 .skip))
 (.seq (.seq (.reg [⟨.t 120, .p (.fa 6), [.l 8], none, 0, 0⟩, ⟨.t 121, .r (.load false 1), [.t 120], none, 0, 0⟩, ⟨.l 122, .p (.leng .sl), [.t 121], none, 0, 0⟩, ⟨.l 123, .p (.mv), [.c (.int .i64 0)], none, 0, 0⟩])
 (.block 1 (.loop (.seq (.reg [⟨.l 124, .p (.bin .lss), [.l 123, .l 122], none, 0, 0⟩])
 (.seq (.cond (.l 124) .skip
 (.exit 1))
 (.seq (.block 2 (.seq (.reg [⟨.t 125, .p (.mv), [.l 123], none, 0, 0⟩, ⟨.l 11, .p (.mv), [.t 125], none, 0, 0⟩])
 (.seq (.regD [⟨.t 127, .p (.mv), [.l 0], none, 0, 0⟩, ⟨.t 128, .p (.nilc), [.t 127], none, 0, 0⟩, ⟨.t 129, .p (.fa 10), [.t 128], none, 0, 0⟩, ⟨.t 130, .r (.load false 1), [.t 129], none, 0, 0⟩, ⟨.t 131, .p (.mv), [.l 0], none, 0, 0⟩, ⟨.t 132, .p (.nilc), [.t 131], none, 0, 0⟩, ⟨.t 133, .p (.fa 320), [.t 132], none, 0, 0⟩, ⟨.t 134, .r (.load false 1), [.t 133], none, 0, 0⟩, ⟨.t 135, .p (.mv), [.l 11], none, 0, 0⟩, ⟨.t 136, .call 61, [.t 130, .t 134, .t 135], none, 0, 1⟩, ⟨.t 126, .p (.mv), [.t 136], none, 1, 1⟩, ⟨.t 137, .p (.ext 0), [.t 126], none, 1, 1⟩, ⟨.t 138, .p (.ext 1), [.t 126], none, 1, 1⟩, ⟨.l 12, .p (.mv), [.t 137], none, 1, 1⟩, ⟨.t 13, .p (.mv), [.t 138], none, 1, 1⟩])
 (.reg [⟨.t 139, .p (.mv), [.l 0], none, 0, 0⟩, ⟨.t 140, .p (.mv), [.l 0], none, 0, 0⟩, ⟨.t 141, .p (.nilc), [.t 140], none, 0, 0⟩, ⟨.t 142, .p (.fa 319), [.t 141], none, 0, 0⟩, ⟨.t 143, .r (.load false 1), [.t 142], none, 0, 0⟩, ⟨.t 144, .p (.mv), [.l 12], none, 0, 0⟩, ⟨.t 145, .a (.bslice [(.int .u64 0)] 1 1 [(0, 1)]), [.t 144], none, 0, 0⟩, ⟨.t 146, .e (.append 1 8 none), [.t 143, .t 145], none, 0, 0⟩, ⟨.t 147, .p (.nilc), [.t 139], none, 0, 0⟩, ⟨.t 148, .p (.fa 319), [.t 147], none, 0, 0⟩, ⟨.no, .e (.store 1), [.t 148, .t 146], none, 0, 0⟩]))))
 (.reg [⟨.t 149, .p (.bin .add), [.l 123, .c (.int .i64 1)], none, 0, 0⟩, ⟨.l 123, .p (.mv), [.t 149], none, 0, 0⟩])))))))
 (.seq (.reg [⟨.t 150, .p (.mv), [.l 0], none, 0, 0⟩, ⟨.t 151, .call 37, [], none, 0, 0⟩, ⟨.t 152, .p (.nilc), [.t 150], none, 0, 0⟩, ⟨.t 153, .p (.fa 320), [.t 152], none, 0, 0⟩, ⟨.no, .e (.store 1), [.t 153, .t 151], none, 0, 0⟩])
 (.seq (.regD [⟨.t 154, .p (.mv), [.l 0], none, 0, 1⟩, ⟨.t 155, .p (.mv), [.l 0], none, 0, 0⟩, ⟨.t 156, .p (.mv), [.l 1], none, 0, 0⟩, ⟨.t 158, .p (.fa 2), [.l 9], none, 0, 1⟩, ⟨.t 159, .r (.load false 1), [.t 158], none, 0, 1⟩, ⟨.t 160, .p (.mv), [.l 0], none, 0, 1⟩, ⟨.t 161, .p (.nilc), [.t 160], none, 0, 1⟩, ⟨.t 162, .p (.fa 346), [.t 161], none, 0, 1⟩, ⟨.t 163, .r (.load false 1), [.t 162], none, 0, 1⟩, ⟨.t 157, .call 57, [.t 155, .t 156], none, 0, 1⟩, ⟨.t 164, .call 58, [.t 154, .t 157, .t 159, .t 163], none, 1, 2⟩])
 (.seq (.reg [⟨.l 4, .p (.mv), [.c (.int .i64 0)], none, 0, 0⟩])
 .ret)))))))
 .skip)))))
 (.seq (.reg [⟨.l 4, .p (.mv), [.c (.int .i64 2)], none, 0, 0⟩])
 .ret))))),
 [.tmp (.l 4)]⟩
theorem cf21_ok : compF TP Tryz.f21 = some cf21 := by kernel_rfl
def cf22 : CF := ⟨1, (.seq (.reg [⟨.l 2, .p (.mv), [.c (.int .i64 0)], none, 0, 0⟩])
 (.seq (.seq (.reg [⟨.t 3, .p (.mv), [.l 0], none, 0, 0⟩, ⟨.t 4, .call 39, [.t 3], none, 0, 0⟩, ⟨.l 5, .p (.un .not), [.t 4], none, 0, 0⟩])
 (.cond (.l 5) (.seq (.reg [⟨.l 2, .p (.mv), [.c (.int .i64 1)], none, 0, 0⟩])
 .ret)
 .skip))
 (.seq (.seq (.reg [⟨.t 6, .p (.mv), [.l 0], none, 0, 0⟩, ⟨.t 7, .call 53, [.t 6, .c (.int .i64 7)], none, 0, 0⟩, ⟨.t 8, .p (.un .not), [.t 7], none, 0, 0⟩, ⟨.t 9, .p (.mv), [.t 8], none, 0, 0⟩, ⟨.t 10, .p (.mv), [.l 0], (some (.t 9, false)), 0, 0⟩, ⟨.t 11, .p (.nilc), [.t 10], (some (.t 9, false)), 0, 0⟩, ⟨.t 12, .p (.fa 323), [.t 11], (some (.t 9, false)), 0, 0⟩, ⟨.t 13, .r (.load false 1), [.t 12], (some (.t 9, false)), 0, 0⟩, ⟨.t 14, .p (.bin .lss), [.t 13, .c (.int .i64 0)], (some (.t 9, false)), 0, 0⟩, ⟨.l 15, .p (.pick), [.t 9, .c (.bool true), .t 14], none, 0, 0⟩])
 (.cond (.l 15) (.seq (.reg [⟨.l 2, .p (.mv), [.c (.int .i64 2)], none, 0, 0⟩])
 .ret)
 .skip))
 (.seq (.reg [⟨.t 16, .p (.mv), [.l 0], none, 0, 0⟩, ⟨.t 17, .p (.nilc), [.t 16], none, 0, 0⟩, ⟨.t 18, .p (.fa 325), [.t 17], none, 0, 0⟩, ⟨.no, .e (.store 1), [.t 18, .c (.bool true)], none, 0, 0⟩])
 (.seq (.reg [⟨.l 2, .p (.mv), [.c (.int .i64 0)], none, 0, 0⟩])
 .ret))))),
 [.tmp (.l 2)]⟩
theorem cf22_ok : compF TP Tryz.f22 = some cf22 := by kernel_rfl
def cf23 : CF := ⟨3, (.seq (.reg [⟨.l 4, .a (.box), [.l 1], none, 0, 0⟩, ⟨.l 5, .a (.box), [.l 2], none, 0, 0⟩, ⟨.l 6, .p (.mv), [.c (.bool false)], none, 0, 0⟩])
 (.seq (.seq (.reg [⟨.t 10, .p (.mv), [.l 0], none, 0, 0⟩, ⟨.t 11, .call 39, [.t 10], none, 0, 0⟩, ⟨.l 12, .p (.un .not), [.t 11], none, 0, 0⟩])
 (.cond (.l 12) (.seq (.reg [⟨.l 6, .p (.mv), [.c (.bool false)], none, 0, 0⟩])
 .ret)
 .skip))
 (.seq (.reg [⟨.t 13, .p (.mkf (.func 62) 0), [.l 4, .l 5], none, 0, 0⟩, ⟨.l 7, .p (.mv), [.t 13], none, 0, 0⟩])
 (.seq (.seq (.reg [⟨.t 14, .p (.mv), [.l 0], none, 0, 0⟩, ⟨.t 15, .p (.nilc), [.t 14], none, 0, 0⟩, ⟨.t 16, .p (.fa 317), [.t 15], none, 0, 0⟩, ⟨.l 17, .r (.load false 1), [.t 16], none, 0, 0⟩, ⟨.l 18, .p (.leng .sl), [.l 17], none, 0, 0⟩, ⟨.l 19, .p (.mv), [.c (.int .i64 0)], none, 0, 0⟩])
 (.block 0 (.loop (.seq (.reg [⟨.l 20, .p (.bin .lss), [.l 19, .l 18], none, 0, 0⟩])
 (.seq (.cond (.l 20) .skip
 (.exit 0))
 (.seq (.block 1 (.seq (.reg [⟨.t 21, .p (.ixsl 5), [.l 17, .l 19], none, 0, 0⟩, ⟨.t 22, .r (.load true 5), [.t 21], none, 0, 0⟩, ⟨.l 9, .a (.alloc [.nilp, (.int .i64 0), (.int .i64 0), (.int .i64 0), (.bool false)]), [], none, 0, 0⟩, ⟨.no, .e (.store 5), [.l 9, .t 22], none, 0, 0⟩])
 (.seq (.reg [⟨.t 23, .p (.mv), [.l 7], none, 0, 0⟩, ⟨.t 24, .r (.load true 5), [.l 9], none, 0, 0⟩, ⟨.l 25, .callv, [.t 23, .t 24], none, 0, 0⟩])
 (.cond (.l 25) (.seq (.reg [⟨.l 6, .p (.mv), [.c (.bool true)], none, 0, 0⟩])
 .ret)
 .skip))))
 (.reg [⟨.t 26, .p (.bin .add), [.l 19, .c (.int .i64 1)], none, 0, 0⟩, ⟨.l 19, .p (.mv), [.t 26], none, 0, 0⟩])))))))
 (.seq (.reg [⟨.t 27, .p (.mv), [.l 0], none, 0, 0⟩, ⟨.t 28, .p (.nilc), [.t 27], none, 0, 0⟩, ⟨.t 29, .p (.fa 316), [.t 28], none, 0, 0⟩, ⟨.t 30, .r (.load false 1), [.t 29], none, 0, 0⟩, ⟨.t 31, .p (.mv), [.t 30], none, 0, 0⟩, ⟨.t 32, .p (.mv), [.l 7], (some (.t 31, true)), 0, 0⟩, ⟨.t 33, .p (.mv), [.l 0], (some (.t 31, true)), 0, 0⟩, ⟨.t 34, .p (.nilc), [.t 33], (some (.t 31, true)), 0, 0⟩, ⟨.t 35, .p (.fa 311), [.t 34], (some (.t 31, true)), 0, 0⟩, ⟨.t 36, .r (.load true 5), [.t 35], (some (.t 31, true)), 0, 0⟩, ⟨.t 37, .callv, [.t 32, .t 36], (some (.t 31, true)), 0, 0⟩, ⟨.t 38, .p (.pick), [.t 31, .t 37, .c (.bool false)], none, 0, 0⟩, ⟨.l 6, .p (.mv), [.t 38], none, 0, 0⟩])
 .ret))))),
 [.tmp (.l 6)]⟩
theorem cf23_ok : compF TP Tryz.f23 = some cf23 := by kernel_rfl
def cf24 : CF := ⟨1, (.seq (.reg [⟨.l 2, .p (.mv), [.c (.int .i64 0)], none, 0, 0⟩])
 (.seq (.seq (.reg [⟨.t 3, .p (.mv), [.l 0], none, 0, 0⟩, ⟨.t 4, .call 39, [.t 3], none, 0, 0⟩, ⟨.l 5, .p (.un .not), [.t 4], none, 0, 0⟩])
 (.cond (.l 5) (.seq (.reg [⟨.l 2, .p (.mv), [.c (.int .i64 0)], none, 0, 0⟩])
 .ret)
 .skip))
 (.seq (.reg [⟨.t 6, .p (.mv), [.l 0], none, 0, 0⟩, ⟨.t 7, .p (.nilc), [.t 6], none, 0, 0⟩, ⟨.t 8, .p (.fa 317), [.t 7], none, 0, 0⟩, ⟨.t 9, .r (.load false 1), [.t 8], none, 0, 0⟩, ⟨.t 10, .p (.leng .sl), [.t 9], none, 0, 0⟩, ⟨.l 2, .p (.mv), [.t 10], none, 0, 0⟩])
 .ret))),
 [.tmp (.l 2)]⟩
theorem cf24_ok : compF TP Tryz.f24 = some cf24 := by kernel_rfl
def cf25 : CF := ⟨2, (.seq (.reg [⟨.l 2, .a (.box), [.l 0], none, 0, 0⟩, ⟨.l 3, .a (.box), [.l 1], none, 0, 0⟩, ⟨.l 4, .p (.mv), [.c (.int .i64 0)], none, 0, 0⟩])
 (.seq (.seq (.reg [⟨.t 5, .r (.load false 1), [.l 2], none, 0, 0⟩, ⟨.t 6, .call 39, [.t 5], none, 0, 0⟩, ⟨.l 7, .p (.un .not), [.t 6], none, 0, 0⟩])
 (.cond (.l 7) (.seq (.reg [⟨.l 4, .p (.mv), [.c (.int .i64 1)], none, 0, 0⟩])
 .ret)
 .skip))
 (.seq (.reg [⟨.t 8, .r (.load false 1), [.l 2], none, 0, 0⟩, ⟨.t 9, .p (.mkf (.func 64) 0), [.l 2, .l 3], none, 0, 0⟩, ⟨.t 10, .call 63, [.t 8, .t 9], none, 0, 0⟩, ⟨.l 4, .p (.mv), [.t 10], none, 0, 0⟩])
 .ret))),
 [.tmp (.l 4)]⟩
theorem cf25_ok : compF TP Tryz.f25 = some cf25 := by kernel_rfl
def cf26 : CF := ⟨1, (.seq (.reg [⟨.l 2, .p (.mv), [.c (.int .i64 0)], none, 0, 0⟩])
 (.seq (.seq (.reg [⟨.t 3, .p (.mv), [.l 0], none, 0, 0⟩, ⟨.t 4, .call 39, [.t 3], none, 0, 0⟩, ⟨.l 5, .p (.un .not), [.t 4], none, 0, 0⟩])
 (.cond (.l 5) (.seq (.reg [⟨.l 2, .p (.mv), [.c (.int .i64 0)], none, 0, 0⟩])
 .ret)
 .skip))
 (.seq (.reg [⟨.t 6, .p (.mv), [.l 0], none, 0, 0⟩, ⟨.t 7, .p (.nilc), [.t 6], none, 0, 0⟩, ⟨.t 8, .p (.fa 10), [.t 7], none, 0, 0⟩, ⟨.t 9, .r (.load false 1), [.t 8], none, 0, 0⟩, ⟨.t 10, .call 66, [.t 9], none, 0, 0⟩, ⟨.l 2, .p (.mv), [.t 10], none, 0, 0⟩])
 .ret))),
 [.tmp (.l 2)]⟩
theorem cf26_ok : compF TP Tryz.f26 = some cf26 := by kernel_rfl
def cf28 : CF := ⟨1, (.seq (.reg [⟨.l 1, .a (.box), [.l 0], none, 0, 0⟩, ⟨.l 2, .p (.mv), [.c (.int .i64 0)], none, 0, 0⟩])
 (.seq (.seq (.reg [⟨.t 3, .r (.load true 9), [.l 1], none, 0, 0⟩, ⟨.t 4, .call 67, [.t 3], none, 0, 0⟩, ⟨.l 5, .p (.un .not), [.t 4], none, 0, 0⟩])
 (.cond (.l 5) (.seq (.reg [⟨.l 2, .p (.mv), [.c (.int .i64 2)], none, 0, 0⟩])
 .ret)
 .skip))
 (.seq (.seq (.reg [⟨.t 6, .r (.load true 9), [.l 1], none, 0, 0⟩, ⟨.t 7, .call 68, [.t 6], none, 0, 0⟩, ⟨.l 8, .p (.bin .gtr), [.t 7, .c (.int .i64 2000)], none, 0, 0⟩])
 (.cond (.l 8) (.seq (.reg [⟨.l 2, .p (.mv), [.c (.int .i64 3)], none, 0, 0⟩])
 .ret)
 .skip))
 (.seq (.reg [⟨.l 2, .p (.mv), [.c (.int .i64 0)], none, 0, 0⟩])
 .ret)))),
 [.tmp (.l 2)]⟩
theorem cf28_ok : compF TP Tryz.f28 = some cf28 := by kernel_rfl
def cf29 : CF := ⟨1, (.seq (.reg [⟨.l 1, .a (.box), [.l 0], none, 0, 0⟩, ⟨.l 2, .p (.mv), [.c (.bool false)], none, 0, 0⟩])
 (.seq (.reg [⟨.t 3, .r (.load true 9), [.l 1], none, 0, 0⟩, ⟨.t 4, .call 69, [.t 3], none, 0, 0⟩, ⟨.t 5, .p (.bin .eql), [.t 4, .c (.int .i64 0)], none, 0, 0⟩, ⟨.l 2, .p (.mv), [.t 5], none, 0, 0⟩])
 .ret)),
 [.tmp (.l 2)]⟩
theorem cf29_ok : compF TP Tryz.f29 = some cf29 := by kernel_rfl
def cf30 : CF := ⟨2, (.seq (.reg [⟨.l 3, .a (.box), [.l 1], none, 0, 0⟩, ⟨.l 4, .p (.mv), [.c (.int .i64 0)], none, 0, 0⟩])
 (.seq (.block 0 (.seq (.reg [⟨.t 6, .p (.mv), [.l 0], none, 0, 0⟩, ⟨.t 7, .call 70, [.t 6], none, 0, 0⟩, ⟨.l 5, .p (.mv), [.t 7], none, 0, 0⟩])
 (.cond (.l 5) (.seq (.reg [⟨.l 4, .p (.mv), [.c (.int .i64 1)], none, 0, 0⟩])
 .ret)
 (.seq (.reg [⟨.t 9, .r (.load true 9), [.l 3], none, 0, 0⟩, ⟨.t 10, .call 29, [.t 9], none, 0, 0⟩, ⟨.t 11, .p (.un .not), [.t 10], none, 0, 0⟩, ⟨.l 8, .p (.mv), [.t 11], none, 0, 0⟩])
 (.cond (.l 8) (.seq (.reg [⟨.l 4, .p (.mv), [.c (.int .i64 2)], none, 0, 0⟩])
 .ret)
 .skip)))))
 (.seq (.regD [⟨.t 12, .p (.mv), [.l 0], none, 0, 1⟩, ⟨.t 13, .p (.nilc), [.t 12], none, 0, 1⟩, ⟨.t 14, .p (.fa 1), [.t 13], none, 0, 1⟩, ⟨.t 15, .r (.load true 9), [.l 3], none, 0, 0⟩, ⟨.t 16, .call 35, [.t 15], none, 0, 1⟩, ⟨.t 17, .call 71, [.t 14, .t 16], none, 1, 2⟩])
 (.seq (.reg [⟨.l 4, .p (.mv), [.c (.int .i64 0)], none, 0, 0⟩])
 .ret)))),
 [.tmp (.l 4)]⟩
theorem cf30_ok : compF TP Tryz.f30 = some cf30 := by kernel_rfl
def cf31 : CF := ⟨2, (.seq (.reg [⟨.l 4, .p (.mv), [.c (.int .i64 0)], none, 0, 0⟩])
 (.seq (.reg [⟨.t 5, .p (.mv), [.l 0], none, 0, 0⟩, ⟨.t 6, .p (.mv), [.l 1], none, 0, 0⟩, ⟨.t 7, .call 72, [.t 5, .t 6, .c (.int .i64 1)], none, 0, 0⟩, ⟨.l 4, .p (.mv), [.t 7], none, 0, 0⟩])
 .ret)),
 [.tmp (.l 4)]⟩
theorem cf31_ok : compF TP Tryz.f31 = some cf31 := by kernel_rfl
def cf32 : CF := ⟨2, (.seq (.reg [⟨.l 4, .p (.mv), [.c (.int .i64 0)], none, 0, 0⟩, ⟨.l 5, .p (.mv), [.c (.int .i64 0)], none, 0, 0⟩])
 (.seq (.seq (.reg [⟨.t 8, .p (.mv), [.l 0], none, 0, 0⟩, ⟨.t 9, .call 73, [.t 8], none, 0, 0⟩, ⟨.l 10, .p (.un .not), [.t 9], none, 0, 0⟩])
 (.cond (.l 10) (.seq (.reg [⟨.l 4, .p (.mv), [.c (.int .i64 0)], none, 0, 0⟩, ⟨.l 5, .p (.mv), [.c (.int .i64 1)], none, 0, 0⟩])
 .ret)
 .skip))
 (.seq (.seq (.reg [⟨.t 11, .p (.mv), [.l 1], none, 0, 0⟩, ⟨.t 12, .call 47, [.t 11], none, 0, 0⟩, ⟨.l 13, .p (.un .not), [.t 12], none, 0, 0⟩])
 (.cond (.l 13) (.seq (.reg [⟨.l 4, .p (.mv), [.c (.int .i64 0)], none, 0, 0⟩, ⟨.l 5, .p (.mv), [.c (.int .i64 2)], none, 0, 0⟩])
 .ret)
 .skip))
 (.seq (.reg [⟨.t 15, .p (.mv), [.l 0], none, 0, 0⟩, ⟨.t 16, .p (.nilc), [.t 15], none, 0, 0⟩, ⟨.t 17, .p (.fa 0), [.t 16], none, 0, 0⟩, ⟨.t 18, .r (.load false 1), [.t 17], none, 0, 0⟩, ⟨.t 19, .p (.mv), [.l 1], none, 0, 0⟩, ⟨.t 20, .r (.lookup (.one .s) true (.int .i64 0)), [.t 18, .t 19], none, 0, 0⟩, ⟨.t 14, .p (.mv), [.t 20], none, 0, 0⟩, ⟨.t 21, .p (.ext 0), [.t 14], none, 0, 0⟩, ⟨.t 22, .p (.ext 1), [.t 14], none, 0, 0⟩, ⟨.l 6, .p (.mv), [.t 21], none, 0, 0⟩, ⟨.l 7, .p (.mv), [.t 22], none, 0, 0⟩])
 (.seq (.seq (.reg [⟨.t 23, .p (.mv), [.l 7], none, 0, 0⟩, ⟨.l 24, .p (.un .not), [.t 23], none, 0, 0⟩])
 (.cond (.l 24) (.seq (.reg [⟨.t 25, .p (.mv), [.l 0], none, 0, 0⟩, ⟨.t 26, .p (.nilc), [.t 25], none, 0, 0⟩, ⟨.t 27, .p (.fa 1), [.t 26], none, 0, 0⟩, ⟨.t 28, .r (.load false 1), [.t 27], none, 0, 0⟩, ⟨.t 29, .p (.leng .sl), [.t 28], none, 0, 0⟩, ⟨.l 6, .p (.mv), [.t 29], none, 0, 0⟩])
 (.seq (.reg [⟨.t 30, .p (.mv), [.l 0], none, 0, 0⟩, ⟨.t 31, .p (.nilc), [.t 30], none, 0, 0⟩, ⟨.t 32, .p (.fa 0), [.t 31], none, 0, 0⟩, ⟨.t 33, .r (.load false 1), [.t 32], none, 0, 0⟩, ⟨.t 34, .p (.mv), [.l 1], none, 0, 0⟩, ⟨.t 35, .p (.mv), [.l 6], none, 0, 0⟩, ⟨.no, .e (.mapup (.one .s)), [.t 33, .t 34, .t 35], none, 0, 0⟩])
 (.reg [⟨.t 36, .p (.mv), [.l 0], none, 0, 0⟩, ⟨.t 37, .p (.mv), [.l 0], none, 0, 0⟩, ⟨.t 38, .p (.nilc), [.t 37], none, 0, 0⟩, ⟨.t 39, .p (.fa 1), [.t 38], none, 0, 0⟩, ⟨.t 40, .r (.load false 1), [.t 39], none, 0, 0⟩, ⟨.t 41, .p (.mv), [.l 1], none, 0, 0⟩, ⟨.t 42, .a (.bslice [(.str 0 0)] 1 1 [(0, 1)]), [.t 41], none, 0, 0⟩, ⟨.t 43, .e (.append 1 16 none), [.t 40, .t 42], none, 0, 0⟩, ⟨.t 44, .p (.nilc), [.t 36], none, 0, 0⟩, ⟨.t 45, .p (.fa 1), [.t 44], none, 0, 0⟩, ⟨.no, .e (.store 1), [.t 45, .t 43], none, 0, 0⟩])))
 .skip))
 (.seq (.reg [⟨.t 46, .p (.mv), [.l 6], none, 0, 0⟩, ⟨.l 4, .p (.mv), [.t 46], none, 0, 0⟩, ⟨.l 5, .p (.mv), [.c (.int .i64 0)], none, 0, 0⟩])
 .ret)))))),
 [.tmp (.l 4), .tmp (.l 5)]⟩
theorem cf32_ok : compF TP Tryz.f32 = some cf32 := by kernel_rfl
def cf33 : CF := ⟨3, (.seq (.reg [⟨.l 6, .p (.mv), [.c .nilp], none, 0, 0⟩])
 (.seq (.seq (.reg [⟨.t 7, .p (.mv), [.l 0], none, 0, 0⟩, ⟨.t 8, .r (.eq (.one .p) false), [.t 7, .c .nilp], none, 0, 0⟩, ⟨.t 9, .p (.mv), [.t 8], none, 0, 0⟩, ⟨.t 10, .p (.mv), [.l 1], (some (.t 9, false)), 0, 0⟩, ⟨.t 11, .r (.eq (.one .p) false), [.t 10, .c .nilp], (some (.t 9, false)), 0, 0⟩, ⟨.t 12, .p (.pick), [.t 9, .c (.bool true), .t 11], none, 0, 0⟩, ⟨.t 13, .p (.mv), [.t 12], none, 0, 0⟩, ⟨.t 14, .p (.mv), [.l 2], (some (.t 13, false)), 0, 0⟩, ⟨.t 15, .p (.bin .lss), [.t 14, .c (.int .i64 1)], (some (.t 13, false)), 0, 0⟩, ⟨.t 16, .p (.pick), [.t 13, .c (.bool true), .t 15], none, 0, 0⟩, ⟨.t 17, .p (.mv), [.t 16], none, 0, 0⟩, ⟨.t 18, .p (.mv), [.l 2], (some (.t 17, false)), 0, 0⟩, ⟨.t 19, .p (.bin .gtr), [.t 18, .c (.int .i64 1048576)], (some (.t 17, false)), 0, 0⟩, ⟨.l 20, .p (.pick), [.t 17, .c (.bool true), .t 19], none, 0, 0⟩])
 (.cond (.l 20) (.seq (.reg [⟨.l 6, .p (.mv), [.c .nilp], none, 0, 0⟩])
 .ret)
 .skip))
 (.seq (.reg [⟨.t 21, .p (.mv), [.l 2], none, 0, 0⟩, ⟨.t 22, .p (.mv), [.l 0], none, 0, 0⟩, ⟨.t 23, .p (.mv), [.l 1], none, 0, 0⟩, ⟨.t 24, .p (.build [.nils, .nils, .nils, .nils, (.int .i64 0), (.int .i64 0), .nilp, .nilp] [(5, 1), (6, 1), (7, 1)]), [.t 21, .t 22, .t 23], none, 0, 0⟩, ⟨.t 25, .a (.box), [.t 24], none, 0, 0⟩, ⟨.l 6, .p (.mv), [.t 25], none, 0, 0⟩])
 .ret))),
 [.tmp (.l 6)]⟩
theorem cf33_ok : compF TP Tryz.f33 = some cf33 := by kernel_rfl
def cf34 : CF := ⟨2, (.seq (.reg [⟨.l 3, .a (.box), [.l 1], none, 0, 0⟩, ⟨.l 4, .p (.mv), [.c .nilp], none, 0, 0⟩])
 (.seq (.seq (.reg [⟨.t 5, .p (.mv), [.l 0], none, 0, 0⟩, ⟨.t 6, .r (.eq (.one .p) false), [.t 5, .c .nilp], none, 0, 0⟩, ⟨.t 7, .p (.mv), [.t 6], none, 0, 0⟩, ⟨.t 8, .p (.fa 0), [.l 3], (some (.t 7, false)), 0, 0⟩, ⟨.t 9, .r (.load false 1), [.t 8], (some (.t 7, false)), 0, 0⟩, ⟨.t 10, .p (.bin .lss), [.t 9, .c (.int .i64 1)], (some (.t 7, false)), 0, 0⟩, ⟨.t 11, .p (.pick), [.t 7, .c (.bool true), .t 10], none, 0, 0⟩, ⟨.t 12, .p (.mv), [.t 11], none, 0, 0⟩, ⟨.t 13, .p (.fa 0), [.l 3], (some (.t 12, false)), 0, 0⟩, ⟨.t 14, .r (.load false 1), [.t 13], (some (.t 12, false)), 0, 0⟩, ⟨.t 15, .p (.bin .gtr), [.t 14, .c (.int .i64 1048576)], (some (.t 12, false)), 0, 0⟩, ⟨.t 16, .p (.pick), [.t 12, .c (.bool true), .t 15], none, 0, 0⟩, ⟨.t 17, .p (.mv), [.t 16], none, 0, 0⟩, ⟨.t 18, .p (.fa 1), [.l 3], (some (.t 17, false)), 0, 0⟩, ⟨.t 19, .r (.load false 1), [.t 18], (some (.t 17, false)), 0, 0⟩, ⟨.t 20, .p (.bin .lss), [.t 19, .c (.int .i64 0)], (some (.t 17, false)), 0, 0⟩, ⟨.l 21, .p (.pick), [.t 17, .c (.bool true), .t 20], none, 0, 0⟩])
 (.cond (.l 21) (.seq (.reg [⟨.l 4, .p (.mv), [.c .nilp], none, 0, 0⟩])
 .ret)
 .skip))
 (.seq (.reg [⟨.t 22, .p (.mv), [.l 0], none, 0, 0⟩, ⟨.t 23, .r (.load true 3), [.l 3], none, 0, 0⟩, ⟨.t 24, .p (.build [.nilp, (.int .i64 0), (.int .i64 0), (.bool false), (.int .i64 0), (.int .i64 0), (.int .i64 0)] [(0, 1), (1, 3)]), [.t 22, .t 23], none, 0, 0⟩, ⟨.t 25, .a (.box), [.t 24], none, 0, 0⟩, ⟨.l 4, .p (.mv), [.t 25], none, 0, 0⟩])
 .ret))),
 [.tmp (.l 4)]⟩
theorem cf34_ok : compF TP Tryz.f34 = some cf34 := by kernel_rfl
def cf35 : CF := ⟨1, (.seq (.reg [⟨.l 1, .a (.box), [.l 0], none, 0, 0⟩, ⟨.l 2, .a (.alloc [(.int .i64 0), (.int .i64 0), (.int .i64 0), (.str 0 0), (.str 0 0), (.int .i64 0), .nils, (.str 0 0), (.int .i64 0)]), [], none, 0, 0⟩])
 (.seq (.reg [⟨.t 3, .p (.fa 6), [.l 1], none, 0, 0⟩, ⟨.t 4, .r (.load false 1), [.t 3], none, 0, 0⟩, ⟨.t 5, .call 74, [.t 4], none, 0, 0⟩, ⟨.t 6, .p (.fa 6), [.l 1], none, 0, 0⟩, ⟨.no, .e (.store 1), [.t 6, .t 5], none, 0, 0⟩])
 (.seq (.reg [⟨.t 7, .r (.load true 9), [.l 1], none, 0, 0⟩, ⟨.no, .e (.store 9), [.l 2, .t 7], none, 0, 0⟩])
 .ret))),
 [.cell (.l 2) true 9]⟩
theorem cf35_ok : compF TP Tryz.f35 = some cf35 := by kernel_rfl
def cf36 : CF := ⟨0, (.seq (.reg [⟨.l 0, .a (.alloc [.nilf, .nilf, .nilf, .nilf, .nilf, .nilf, .nilf, .nilf, .nilf, .nilf, .nilf, .nilf, .nilf, .nilf, .nilf, .nilf, .nilf, .nilf, .nilf, .nilf, .nilf, .nilf, .nilf, .nilf, .nilf, .nilf, .nilf, .nilf, .nilf, .nilf, .nilf, .nilf, .nilf, .nilf, .nilf, .nilf, .nilf, .nilf, .nilf, .nilf, .nilf]), [], none, 0, 0⟩])
 (.seq (.reg [⟨.t 1, .p (.build [.nilf, .nilf, .nilf, .nilf, .nilf, .nilf, .nilf, .nilf, .nilf, .nilf, .nilf, .nilf, .nilf, .nilf, .nilf, .nilf, .nilf, .nilf, .nilf, .nilf, .nilf, .nilf, .nilf, .nilf, .nilf, .nilf, .nilf, .nilf, .nilf, .nilf, .nilf, .nilf, .nilf, .nilf, .nilf, .nilf, .nilf, .nilf, .nilf, .nilf, .nilf] [(1, 1), (2, 1), (3, 1), (4, 1), (5, 1), (6, 1), (7, 1), (8, 1), (9, 1), (10, 1), (11, 1), (12, 1), (13, 1), (14, 1), (15, 1), (16, 1), (17, 1), (18, 1), (19, 1), (20, 1), (21, 1), (22, 1), (23, 1), (24, 1), (25, 1), (26, 1), (27, 1), (28, 1), (29, 1), (30, 1), (31, 1), (32, 1), (33, 1), (34, 1), (35, 1), (36, 1), (37, 1), (38, 1), (39, 1), (40, 1)]), [.c (.func (.func 75) [] []), .c (.func (.func 76) [] []), .c (.func (.func 77) [] []), .c (.func (.func 78) [] []), .c (.func (.func 79) [] []), .c (.func (.func 79) [] []), .c (.func (.func 79) [] []), .c (.func (.func 80) [] []), .c (.func (.func 81) [] []), .c (.func (.func 81) [] []), .c (.func (.func 81) [] []), .c (.func (.func 82) [] []), .c (.func (.func 83) [] []), .c (.func (.func 83) [] []), .c (.func (.func 84) [] []), .c (.func (.func 85) [] []), .c (.func (.func 85) [] []), .c (.func (.func 86) [] []), .c (.func (.func 86) [] []), .c (.func (.func 87) [] []), .c (.func (.func 87) [] []), .c (.func (.func 88) [] []), .c (.func (.func 88) [] []), .c (.func (.func 89) [] []), .c (.func (.func 90) [] []), .c (.func (.func 91) [] []), .c (.func (.func 92) [] []), .c (.func (.func 93) [] []), .c (.func (.func 94) [] []), .c (.func (.func 95) [] []), .c (.func (.func 96) [] []), .c (.func (.func 96) [] []), .c (.func (.func 96) [] []), .c (.func (.func 97) [] []), .c (.func (.func 98) [] []), .c (.func (.func 99) [] []), .c (.func (.func 100) [] []), .c (.func (.func 101) [] []), .c (.func (.func 102) [] []), .c (.func (.func 103) [] [])], none, 0, 0⟩, ⟨.t 2, .p (.build [.nilf, .nilf, .nilf, .nilf, .nilf, .nilf, .nilf, .nilf, .nilf, .nilf, .nilf, .nilf, .nilf, .nilf, .nilf, .nilf, .nilf, .nilf, .nilf, .nilf, .nilf, .nilf, .nilf, .nilf, .nilf, .nilf, .nilf, .nilf, .nilf, .nilf, .nilf, .nilf, .nilf, .nilf, .nilf, .nilf, .nilf, .nilf, .nilf, .nilf, .nilf] [(0, 41)]), [.t 1], none, 0, 0⟩, ⟨.no, .e (.store 41), [.l 0, .t 2], none, 0, 0⟩])
 .ret)),
 [.cell (.l 0) true 41]⟩
theorem cf36_ok : compF TP Tryz.f36 = some cf36 := by kernel_rfl
def cf37 : CF := ⟨0, (.seq (.reg [⟨.l 0, .p (.mv), [.c (.int .u64 0)], none, 0, 0⟩])
 (.seq (.reg [⟨.l 0, .p (.mv), [.c (.int .u64 11)], none, 0, 0⟩])
 .ret)),
 [.tmp (.l 0)]⟩
theorem cf37_ok : compF TP Tryz.f37 = some cf37 := by kernel_rfl
def cf38 : CF := ⟨1, (.seq (.reg [⟨.l 3, .p (.mv), [.c (.int .i64 0)], none, 0, 0⟩])
 (.block 0 (.loop (.seq (.reg [⟨.l 4, .p (.bin .lss), [.l 3, .c (.int .i64 256)], none, 0, 0⟩])
 (.seq (.cond (.l 4) .skip
 (.exit 0))
 (.seq (.block 1 (.seq (.reg [⟨.t 5, .p (.mv), [.l 3], none, 0, 0⟩, ⟨.l 2, .p (.mv), [.t 5], none, 0, 0⟩])
 (.regD [⟨.t 6, .p (.mv), [.l 0], none, 0, 1⟩, ⟨.t 7, .p (.mv), [.l 2], none, 0, 1⟩, ⟨.t 9, .p (.nilc), [.t 6], none, 0, 1⟩, ⟨.t 10, .p (.fa 54), [.t 9], none, 0, 1⟩, ⟨.t 8, .call 37, [], none, 0, 1⟩, ⟨.t 11, .p (.ixarrp 256 1), [.t 10, .t 7], none, 1, 1⟩, ⟨.no, .e (.store 1), [.t 11, .t 8], none, 1, 2⟩])))
 (.reg [⟨.t 12, .p (.bin .add), [.l 3, .c (.int .i64 1)], none, 0, 0⟩, ⟨.l 3, .p (.mv), [.t 12], none, 0, 0⟩]))))))),
 []⟩
theorem cf38_ok : compF TP Tryz.f38 = some cf38 := by kernel_rfl
def cf39 : CF := ⟨1, (.seq (.reg [⟨.l 2, .p (.mv), [.c (.bool false)], none, 0, 0⟩])
 (.seq (.reg [⟨.t 3, .p (.mv), [.l 0], none, 0, 0⟩, ⟨.t 4, .r (.eq (.one .p) true), [.t 3, .c .nilp], none, 0, 0⟩, ⟨.t 5, .p (.mv), [.t 4], none, 0, 0⟩, ⟨.t 6, .p (.mv), [.l 0], (some (.t 5, true)), 0, 0⟩, ⟨.t 7, .p (.nilc), [.t 6], (some (.t 5, true)), 0, 0⟩, ⟨.t 8, .p (.fa 10), [.t 7], (some (.t 5, true)), 0, 0⟩, ⟨.t 9, .r (.load false 1), [.t 8], (some (.t 5, true)), 0, 0⟩, ⟨.t 10, .r (.eq (.one .p) true), [.t 9, .c .nilp], (some (.t 5, true)), 0, 0⟩, ⟨.t 11, .p (.pick), [.t 5, .t 10, .c (.bool false)], none, 0, 0⟩, ⟨.l 2, .p (.mv), [.t 11], none, 0, 0⟩])
 .ret)),
 [.tmp (.l 2)]⟩
theorem cf39_ok : compF TP Tryz.f39 = some cf39 := by kernel_rfl
def cf40 : CF := ⟨1, (.seq (.reg [⟨.t 2, .p (.mv), [.l 0], none, 0, 0⟩, ⟨.t 3, .call 38, [.t 2], none, 0, 0⟩])
 (.seq (.regD [⟨.t 4, .p (.mv), [.l 0], none, 0, 0⟩, ⟨.t 5, .p (.nilc), [.t 4], none, 0, 0⟩, ⟨.t 6, .p (.fa 54), [.t 5], none, 0, 0⟩, ⟨.t 7, .p (.slc (.arr 256 1) false false false), [.t 6], none, 0, 0⟩, ⟨.t 8, .p (.mv), [.l 0], none, 0, 0⟩, ⟨.t 9, .p (.nilc), [.t 8], none, 0, 0⟩, ⟨.t 10, .p (.fa 319), [.t 9], none, 0, 0⟩, ⟨.t 11, .r (.load false 1), [.t 10], none, 0, 0⟩, ⟨.t 12, .e (.copy 1), [.t 7, .t 11], none, 0, 1⟩])
 (.reg [⟨.t 13, .p (.mv), [.l 0], none, 0, 0⟩, ⟨.t 14, .p (.mv), [.l 0], none, 0, 0⟩, ⟨.t 15, .p (.nilc), [.t 13], none, 0, 0⟩, ⟨.t 16, .p (.fa 319), [.t 15], none, 0, 0⟩, ⟨.no, .e (.store 1), [.t 16, .c .nils], none, 0, 0⟩, ⟨.t 17, .p (.nilc), [.t 14], none, 0, 0⟩, ⟨.t 18, .p (.fa 329), [.t 17], none, 0, 0⟩, ⟨.no, .e (.store 1), [.t 18, .c (.int .i64 1)], none, 0, 0⟩]))),
 []⟩
theorem cf40_ok : compF TP Tryz.f40 = some cf40 := by kernel_rfl
def cf41 : CF := ⟨1, (.seq (.regD [⟨.t 3, .p (.mv), [.l 0], none, 0, 0⟩, ⟨.t 4, .p (.nilc), [.t 3], none, 0, 0⟩, ⟨.t 5, .p (.fa 311), [.t 4], none, 0, 0⟩, ⟨.t 6, .p (.fa 0), [.t 5], none, 0, 0⟩, ⟨.t 7, .r (.load false 1), [.t 6], none, 0, 0⟩, ⟨.t 8, .p (.nilc), [.t 7], none, 0, 0⟩, ⟨.t 9, .p (.fa 1), [.t 8], none, 0, 0⟩, ⟨.t 10, .p (.fa 5), [.t 9], none, 0, 0⟩, ⟨.t 11, .r (.load false 1), [.t 10], none, 0, 0⟩, ⟨.t 12, .p (.mv), [.l 0], none, 0, 0⟩, ⟨.t 13, .p (.nilc), [.t 12], none, 0, 0⟩, ⟨.t 14, .p (.fa 311), [.t 13], none, 0, 0⟩, ⟨.t 15, .p (.fa 1), [.t 14], none, 0, 0⟩, ⟨.t 16, .r (.load false 1), [.t 15], none, 0, 0⟩, ⟨.t 17, .p (.ixsl 10), [.t 11, .t 16], none, 0, 0⟩, ⟨.l 2, .p (.mv), [.t 17], none, 0, 0⟩])
 (.seq (.reg [⟨.t 18, .p (.mv), [.l 0], none, 0, 0⟩, ⟨.t 19, .p (.nilc), [.t 18], none, 0, 0⟩, ⟨.t 20, .p (.fa 311), [.t 19], none, 0, 0⟩, ⟨.t 21, .p (.fa 1), [.t 20], none, 0, 0⟩, ⟨.t 22, .r (.load false 1), [.t 21], none, 0, 0⟩, ⟨.t 23, .p (.bin .add), [.t 22, .c (.int .i64 1)], none, 0, 0⟩, ⟨.t 24, .p (.nilc), [.t 18], none, 0, 0⟩, ⟨.t 25, .p (.fa 311), [.t 24], none, 0, 0⟩, ⟨.t 26, .p (.fa 1), [.t 25], none, 0, 0⟩, ⟨.no, .e (.store 1), [.t 26, .t 23], none, 0, 0⟩])
 (.regD [⟨.t 27, .p (.mv), [.l 0], none, 0, 0⟩, ⟨.t 28, .p (.mv), [.l 2], none, 0, 0⟩, ⟨.t 29, .p (.nilc), [.t 28], none, 0, 0⟩, ⟨.t 30, .p (.fa 0), [.t 29], none, 0, 0⟩, ⟨.t 31, .r (.load false 1), [.t 30], none, 0, 0⟩, ⟨.t 32, .p (.nilc), [.t 27], none, 0, 0⟩, ⟨.t 33, .p (.fa 13), [.t 32], none, 0, 0⟩, ⟨.t 34, .p (.fa 0), [.t 33], none, 0, 0⟩, ⟨.t 35, .p (.ixarrp 41 1), [.t 34, .t 31], none, 0, 0⟩, ⟨.t 36, .r (.load false 1), [.t 35], none, 0, 0⟩, ⟨.t 37, .p (.mv), [.l 0], none, 0, 0⟩, ⟨.t 38, .p (.mv), [.l 2], none, 0, 0⟩, ⟨.t 39, .callv, [.t 36, .t 37, .t 38], none, 0, 1⟩]))),
 []⟩
theorem cf41_ok : compF TP Tryz.f41 = some cf41 := by kernel_rfl
def cf42 : CF := ⟨1, (.seq (.reg [⟨.l 1, .a (.box), [.l 0], none, 0, 0⟩, ⟨.l 2, .a (.alloc [(.int .i64 0), (.str 0 0), (.int .i64 0), (.int .i64 0), (.int .i64 0), (.str 0 0), (.str 0 0), (.int .i64 0), .nils, (.str 0 0), (.int .i64 0), (.str 0 0), (.str 0 0), (.str 0 0), .nils, (.int .i64 0)]), [], none, 0, 0⟩])
 (.seq (.reg [⟨.t 6, .p (.fa 2), [.l 1], none, 0, 0⟩, ⟨.t 7, .r (.load true 9), [.t 6], none, 0, 0⟩, ⟨.t 8, .call 35, [.t 7], none, 0, 0⟩, ⟨.t 9, .p (.fa 2), [.l 1], none, 0, 0⟩, ⟨.no, .e (.store 9), [.t 9, .t 8], none, 0, 0⟩])
 (.seq (.reg [⟨.t 10, .p (.fa 14), [.l 1], none, 0, 0⟩, ⟨.t 11, .r (.load false 1), [.t 10], none, 0, 0⟩, ⟨.l 3, .p (.mv), [.t 11], none, 0, 0⟩])
 (.seq (.reg [⟨.t 12, .p (.fa 14), [.l 1], none, 0, 0⟩, ⟨.no, .e (.store 1), [.t 12, .c .nils], none, 0, 0⟩])
 (.seq (.seq (.reg [⟨.l 13, .p (.mv), [.l 3], none, 0, 0⟩, ⟨.l 14, .p (.leng .sl), [.l 13], none, 0, 0⟩, ⟨.l 15, .p (.mv), [.c (.int .i64 0)], none, 0, 0⟩])
 (.block 0 (.loop (.seq (.reg [⟨.l 16, .p (.bin .lss), [.l 15, .l 14], none, 0, 0⟩])
 (.seq (.cond (.l 16) .skip
 (.exit 0))
 (.seq (.block 1 (.seq (.reg [⟨.t 17, .p (.ixsl 9), [.l 13, .l 15], none, 0, 0⟩, ⟨.t 18, .r (.load true 9), [.t 17], none, 0, 0⟩, ⟨.l 5, .a (.alloc [(.int .i64 0), (.int .i64 0), (.int .i64 0), (.str 0 0), (.str 0 0), (.int .i64 0), .nils, (.str 0 0), (.int .i64 0)]), [], none, 0, 0⟩, ⟨.no, .e (.store 9), [.l 5, .t 18], none, 0, 0⟩])
 (.regD [⟨.t 19, .p (.fa 14), [.l 1], none, 0, 1⟩, ⟨.t 20, .r (.load false 1), [.t 19], none, 0, 1⟩, ⟨.t 21, .r (.load true 9), [.l 5], none, 0, 0⟩, ⟨.t 22, .call 35, [.t 21], none, 0, 1⟩, ⟨.t 23, .a (.bslice [(.int .i64 0), (.int .i64 0), (.int .i64 0), (.str 0 0), (.str 0 0), (.int .i64 0), .nils, (.str 0 0), (.int .i64 0)] 1 9 [(0, 9)]), [.t 22], none, 1, 1⟩, ⟨.t 24, .e (.append 9 112 none), [.t 20, .t 23], none, 1, 2⟩, ⟨.t 25, .p (.fa 14), [.l 1], none, 2, 2⟩, ⟨.no, .e (.store 1), [.t 25, .t 24], none, 2, 3⟩])))
 (.reg [⟨.t 26, .p (.bin .add), [.l 15, .c (.int .i64 1)], none, 0, 0⟩, ⟨.l 15, .p (.mv), [.t 26], none, 0, 0⟩])))))))
 (.seq (.reg [⟨.t 27, .r (.load true 16), [.l 1], none, 0, 0⟩, ⟨.no, .e (.store 16), [.l 2, .t 27], none, 0, 0⟩])
 .ret)))))),
 [.cell (.l 2) true 16]⟩
theorem cf42_ok : compF TP Tryz.f42 = some cf42 := by kernel_rfl
def cf43 : CF := ⟨2, (.seq (.reg [⟨.l 3, .a (.box), [.l 1], none, 0, 0⟩])
 (.seq (.regD [⟨.t 4, .p (.mv), [.l 0], none, 0, 0⟩, ⟨.t 5, .p (.mv), [.l 0], none, 0, 1⟩, ⟨.t 6, .p (.mv), [.l 0], none, 0, 2⟩, ⟨.t 7, .r (.load true 16), [.l 3], none, 0, 1⟩, ⟨.t 8, .p (.nilc), [.t 4], none, 0, 0⟩, ⟨.t 9, .p (.fa 329), [.t 8], none, 0, 0⟩, ⟨.no, .e (.store 1), [.t 9, .c (.int .i64 0)], none, 0, 1⟩, ⟨.t 10, .p (.nilc), [.t 5], none, 1, 1⟩, ⟨.t 11, .p (.fa 330), [.t 10], none, 1, 1⟩, ⟨.no, .e (.store 16), [.t 11, .t 7], none, 1, 2⟩, ⟨.t 12, .p (.nilc), [.t 6], none, 2, 2⟩, ⟨.t 13, .p (.fa 316), [.t 12], none, 2, 2⟩, ⟨.no, .e (.store 1), [.t 13, .c (.bool false)], none, 2, 3⟩])
 (.seq (.reg [⟨.t 14, .p (.mv), [.l 0], none, 0, 0⟩, ⟨.t 15, .p (.mv), [.l 0], none, 0, 0⟩, ⟨.t 16, .p (.mv), [.l 0], none, 0, 0⟩, ⟨.t 17, .p (.mv), [.l 0], none, 0, 0⟩, ⟨.t 18, .p (.nilc), [.t 14], none, 0, 0⟩, ⟨.t 19, .p (.fa 317), [.t 18], none, 0, 0⟩, ⟨.no, .e (.store 1), [.t 19, .c .nils], none, 0, 0⟩, ⟨.t 20, .p (.nilc), [.t 15], none, 0, 0⟩, ⟨.t 21, .p (.fa 318), [.t 20], none, 0, 0⟩, ⟨.no, .e (.store 1), [.t 21, .c .nils], none, 0, 0⟩, ⟨.t 22, .p (.nilc), [.t 16], none, 0, 0⟩, ⟨.t 23, .p (.fa 310), [.t 22], none, 0, 0⟩, ⟨.no, .e (.store 1), [.t 23, .c .nils], none, 0, 0⟩, ⟨.t 24, .p (.nilc), [.t 17], none, 0, 0⟩, ⟨.t 25, .p (.fa 319), [.t 24], none, 0, 0⟩, ⟨.no, .e (.store 1), [.t 25, .c .nils], none, 0, 0⟩])
 (.reg [⟨.t 26, .p (.mv), [.l 0], none, 0, 0⟩, ⟨.t 27, .p (.mv), [.l 0], none, 0, 0⟩, ⟨.t 28, .call 37, [], none, 0, 0⟩, ⟨.t 29, .call 37, [], none, 0, 0⟩, ⟨.t 30, .p (.nilc), [.t 26], none, 0, 0⟩, ⟨.t 31, .p (.fa 320), [.t 30], none, 0, 0⟩, ⟨.no, .e (.store 1), [.t 31, .t 28], none, 0, 0⟩, ⟨.t 32, .p (.nilc), [.t 27], none, 0, 0⟩, ⟨.t 33, .p (.fa 321), [.t 32], none, 0, 0⟩, ⟨.no, .e (.store 1), [.t 33, .t 29], none, 0, 0⟩])))),
 []⟩
theorem cf43_ok : compF TP Tryz.f43 = some cf43 := by kernel_rfl
def cf45 : CF := ⟨1, (.seq (.reg [⟨.l 1, .a (.box), [.l 0], none, 0, 0⟩, ⟨.l 2, .p (.mv), [.c (.int .i64 0)], none, 0, 0⟩, ⟨.l 3, .p (.mv), [.c (.int .i64 0)], none, 0, 0⟩])
 (.seq (.seq (.reg [⟨.t 10, .r (.load true 6), [.l 1], none, 0, 0⟩, ⟨.t 11, .call 106, [.t 10], none, 0, 0⟩, ⟨.t 9, .p (.mv), [.t 11], none, 0, 0⟩, ⟨.t 12, .p (.ext 0), [.t 9], none, 0, 0⟩, ⟨.t 13, .p (.ext 1), [.t 9], none, 0, 0⟩, ⟨.l 4, .p (.mv), [.t 12], none, 0, 0⟩, ⟨.l 5, .p (.mv), [.t 13], none, 0, 0⟩])
 (.seq (.reg [⟨.t 14, .p (.mv), [.l 5], none, 0, 0⟩, ⟨.l 15, .p (.bin .neq), [.t 14, .c (.int .i64 0)], none, 0, 0⟩])
 (.cond (.l 15) (.seq (.reg [⟨.t 16, .p (.mv), [.l 4], none, 0, 0⟩, ⟨.t 17, .p (.mv), [.l 5], none, 0, 0⟩, ⟨.l 2, .p (.mv), [.t 16], none, 0, 0⟩, ⟨.l 3, .p (.mv), [.t 17], none, 0, 0⟩])
 .ret)
 .skip)))
 (.seq (.reg [⟨.t 19, .call 107, [.l 1], none, 0, 0⟩, ⟨.t 18, .p (.mv), [.t 19], none, 0, 0⟩, ⟨.t 20, .p (.ext 0), [.t 18], none, 0, 0⟩, ⟨.t 21, .p (.ext 1), [.t 18], none, 0, 0⟩, ⟨.t 22, .p (.ext 2), [.t 18], none, 0, 0⟩, ⟨.t 6, .p (.mv), [.t 20], none, 0, 0⟩, ⟨.l 7, .p (.mv), [.t 21], none, 0, 0⟩, ⟨.l 8, .p (.mv), [.t 22], none, 0, 0⟩])
 (.seq (.reg [⟨.t 23, .p (.mv), [.l 7], none, 0, 0⟩, ⟨.t 24, .p (.mv), [.l 8], none, 0, 0⟩, ⟨.l 2, .p (.mv), [.t 23], none, 0, 0⟩, ⟨.l 3, .p (.mv), [.t 24], none, 0, 0⟩])
 .ret)))),
 [.tmp (.l 2), .tmp (.l 3)]⟩
theorem cf45_ok : compF TP Tryz.f45 = some cf45 := by kernel_rfl
def cf46 : CF := ⟨1, (.seq (.reg [⟨.l 1, .a (.box), [.l 0], none, 0, 0⟩, ⟨.l 2, .a (.alloc [(.str 0 0), (.int .i64 0), .nils, .nils, .nils, .nils]), [], none, 0, 0⟩])
 (.seq (.reg [⟨.t 6, .p (.fa 2), [.l 1], none, 0, 0⟩, ⟨.t 7, .r (.load false 1), [.t 6], none, 0, 0⟩, ⟨.t 8, .call 108, [.t 7], none, 0, 0⟩, ⟨.t 9, .p (.fa 2), [.l 1], none, 0, 0⟩, ⟨.no, .e (.store 1), [.t 9, .t 8], none, 0, 0⟩])
 (.seq (.seq (.reg [⟨.t 10, .p (.fa 2), [.l 1], none, 0, 0⟩, ⟨.t 11, .r (.load false 1), [.t 10], none, 0, 0⟩, ⟨.l 12, .p (.leng .sl), [.t 11], none, 0, 0⟩, ⟨.l 13, .p (.mv), [.c (.int .i64 0)], none, 0, 0⟩])
 (.block 0 (.loop (.seq (.reg [⟨.l 14, .p (.bin .lss), [.l 13, .l 12], none, 0, 0⟩])
 (.seq (.cond (.l 14) .skip
 (.exit 0))
 (.seq (.block 1 (.seq (.reg [⟨.t 15, .p (.mv), [.l 13], none, 0, 0⟩, ⟨.l 3, .p (.mv), [.t 15], none, 0, 0⟩])
 (.regD [⟨.t 16, .p (.fa 2), [.l 1], none, 0, 1⟩, ⟨.t 17, .r (.load false 1), [.t 16], none, 0, 1⟩, ⟨.t 18, .p (.mv), [.l 3], none, 0, 1⟩, ⟨.t 19, .p (.fa 2), [.l 1], none, 0, 0⟩, ⟨.t 20, .r (.load false 1), [.t 19], none, 0, 0⟩, ⟨.t 21, .p (.mv), [.l 3], none, 0, 0⟩, ⟨.t 22, .p (.ixsl 9), [.t 20, .t 21], none, 0, 0⟩, ⟨.t 23, .r (.load true 9), [.t 22], none, 0, 0⟩, ⟨.t 24, .call 35, [.t 23], none, 0, 1⟩, ⟨.t 25, .p (.ixsl 9), [.t 17, .t 18], none, 1, 1⟩, ⟨.no, .e (.store 9), [.t 25, .t 24], none, 1, 2⟩])))
 (.reg [⟨.t 26, .p (.bin .add), [.l 13, .c (.int .i64 1)], none, 0, 0⟩, ⟨.l 13, .p (.mv), [.t 26], none, 0, 0⟩])))))))
 (.seq (.regD [⟨.t 27, .p (.fa 3), [.l 1], none, 0, 0⟩, ⟨.t 28, .r (.load false 1), [.t 27], none, 0, 0⟩, ⟨.t 30, .p (.fa 4), [.l 1], none, 0, 1⟩, ⟨.t 31, .r (.load false 1), [.t 30], none, 0, 1⟩, ⟨.t 33, .p (.fa 5), [.l 1], none, 0, 2⟩, ⟨.t 34, .r (.load false 1), [.t 33], none, 0, 2⟩, ⟨.t 29, .call 109, [.t 28], none, 0, 1⟩, ⟨.t 36, .p (.fa 3), [.l 1], none, 1, 3⟩, ⟨.t 32, .call 110, [.t 31], none, 1, 2⟩, ⟨.t 35, .call 111, [.t 34], none, 2, 3⟩, ⟨.no, .e (.store 1), [.t 36, .t 29], none, 3, 4⟩, ⟨.t 37, .p (.fa 4), [.l 1], none, 4, 4⟩, ⟨.no, .e (.store 1), [.t 37, .t 32], none, 4, 5⟩, ⟨.t 38, .p (.fa 5), [.l 1], none, 5, 5⟩, ⟨.no, .e (.store 1), [.t 38, .t 35], none, 5, 6⟩])
 (.seq (.seq (.reg [⟨.t 39, .p (.fa 5), [.l 1], none, 0, 0⟩, ⟨.t 40, .r (.load false 1), [.t 39], none, 0, 0⟩, ⟨.l 41, .p (.leng .sl), [.t 40], none, 0, 0⟩, ⟨.l 42, .p (.mv), [.c (.int .i64 0)], none, 0, 0⟩])
 (.block 2 (.loop (.seq (.reg [⟨.l 43, .p (.bin .lss), [.l 42, .l 41], none, 0, 0⟩])
 (.seq (.cond (.l 43) .skip
 (.exit 2))
 (.seq (.block 3 (.seq (.reg [⟨.t 44, .p (.mv), [.l 42], none, 0, 0⟩, ⟨.l 4, .p (.mv), [.t 44], none, 0, 0⟩])
 (.seq (.reg [⟨.t 45, .p (.fa 5), [.l 1], none, 0, 0⟩, ⟨.t 46, .r (.load false 1), [.t 45], none, 0, 0⟩, ⟨.t 47, .p (.mv), [.l 4], none, 0, 0⟩, ⟨.t 48, .p (.ixsl 10), [.t 46, .t 47], none, 0, 0⟩, ⟨.l 5, .p (.mv), [.t 48], none, 0, 0⟩])
 (.regD [⟨.t 49, .p (.mv), [.l 5], none, 0, 3⟩, ⟨.t 50, .p (.mv), [.l 5], none, 0, 4⟩, ⟨.t 51, .p (.mv), [.l 5], none, 0, 5⟩, ⟨.t 52, .p (.mv), [.l 5], none, 0, 0⟩, ⟨.t 53, .p (.nilc), [.t 52], none, 0, 0⟩, ⟨.t 54, .p (.fa 3), [.t 53], none, 0, 0⟩, ⟨.t 55, .r (.load false 1), [.t 54], none, 0, 0⟩, ⟨.t 57, .p (.mv), [.l 5], none, 0, 1⟩, ⟨.t 58, .p (.nilc), [.t 57], none, 0, 1⟩, ⟨.t 59, .p (.fa 8), [.t 58], none, 0, 1⟩, ⟨.t 60, .r (.load false 1), [.t 59], none, 0, 1⟩, ⟨.t 62, .p (.mv), [.l 5], none, 0, 2⟩, ⟨.t 63, .p (.nilc), [.t 62], none, 0, 2⟩, ⟨.t 64, .p (.fa 9), [.t 63], none, 0, 2⟩, ⟨.t 65, .r (.load false 1), [.t 64], none, 0, 2⟩, ⟨.t 56, .call 112, [.t 55], none, 0, 1⟩, ⟨.t 61, .call 113, [.t 60], none, 1, 2⟩, ⟨.t 66, .call 114, [.t 65], none, 2, 3⟩, ⟨.t 67, .p (.nilc), [.t 49], none, 3, 3⟩, ⟨.t 68, .p (.fa 3), [.t 67], none, 3, 3⟩, ⟨.no, .e (.store 1), [.t 68, .t 56], none, 3, 4⟩, ⟨.t 69, .p (.nilc), [.t 50], none, 4, 4⟩, ⟨.t 70, .p (.fa 8), [.t 69], none, 4, 4⟩, ⟨.no, .e (.store 1), [.t 70, .t 61], none, 4, 5⟩, ⟨.t 71, .p (.nilc), [.t 51], none, 5, 5⟩, ⟨.t 72, .p (.fa 9), [.t 71], none, 5, 5⟩, ⟨.no, .e (.store 1), [.t 72, .t 66], none, 5, 6⟩]))))
 (.reg [⟨.t 73, .p (.bin .add), [.l 42, .c (.int .i64 1)], none, 0, 0⟩, ⟨.l 42, .p (.mv), [.t 73], none, 0, 0⟩])))))))
 (.seq (.reg [⟨.t 74, .r (.load true 6), [.l 1], none, 0, 0⟩, ⟨.no, .e (.store 6), [.l 2, .t 74], none, 0, 0⟩])
 .ret)))))),
 [.cell (.l 2) true 6]⟩
theorem cf46_ok : compF TP Tryz.f46 = some cf46 := by kernel_rfl
def cf47 : CF := ⟨1, (.seq (.reg [⟨.l 2, .p (.mv), [.c (.bool false)], none, 0, 0⟩])
 (.seq (.seq (.reg [⟨.t 5, .p (.mv), [.l 0], none, 0, 0⟩, ⟨.t 6, .p (.bin .eql), [.t 5, .c (.str 0 0)], none, 0, 0⟩, ⟨.t 7, .p (.mv), [.t 6], none, 0, 0⟩, ⟨.t 8, .p (.mv), [.l 0], (some (.t 7, false)), 0, 0⟩, ⟨.t 9, .p (.leng .str), [.t 8], (some (.t 7, false)), 0, 0⟩, ⟨.t 10, .p (.bin .gtr), [.t 9, .c (.int .i64 32)], (some (.t 7, false)), 0, 0⟩, ⟨.l 11, .p (.pick), [.t 7, .c (.bool true), .t 10], none, 0, 0⟩])
 (.cond (.l 11) (.seq (.reg [⟨.l 2, .p (.mv), [.c (.bool false)], none, 0, 0⟩])
 .ret)
 .skip))
 (.seq (.seq (.reg [⟨.t 12, .p (.mv), [.l 0], none, 0, 0⟩, ⟨.l 13, .a (.rangeS), [.t 12], none, 0, 0⟩])
 (.block 0 (.loop (.seq (.reg [⟨.l 14, .e (.nextS), [.l 13], none, 0, 0⟩, ⟨.l 15, .p (.ext 0), [.l 14], none, 0, 0⟩])
 (.seq (.cond (.l 15) .skip
 (.exit 0))
 (.block 1 (.seq (.reg [⟨.t 16, .p (.ext 1), [.l 14], none, 0, 0⟩, ⟨.t 17, .p (.ext 2), [.l 14], none, 0, 0⟩, ⟨.l 3, .p (.mv), [.t 16], none, 0, 0⟩, ⟨.l 4, .p (.mv), [.t 17], none, 0, 0⟩])
 (.block 2 (.seq (.reg [⟨.t 19, .p (.mv), [.l 4], none, 0, 0⟩, ⟨.t 20, .p (.bin .geq), [.t 19, .c (.int .i32 97)], none, 0, 0⟩, ⟨.t 21, .p (.mv), [.t 20], none, 0, 0⟩, ⟨.t 22, .p (.mv), [.l 4], (some (.t 21, true)), 0, 0⟩, ⟨.t 23, .p (.bin .leq), [.t 22, .c (.int .i32 122)], (some (.t 21, true)), 0, 0⟩, ⟨.t 24, .p (.pick), [.t 21, .t 23, .c (.bool false)], none, 0, 0⟩, ⟨.l 18, .p (.mv), [.t 24], none, 0, 0⟩])
 (.cond (.l 18) .skip
 (.seq (.reg [⟨.t 26, .p (.mv), [.l 3], none, 0, 0⟩, ⟨.t 27, .p (.bin .gtr), [.t 26, .c (.int .i64 0)], none, 0, 0⟩, ⟨.t 28, .p (.mv), [.t 27], none, 0, 0⟩, ⟨.t 29, .p (.mv), [.l 4], (some (.t 28, true)), 0, 0⟩, ⟨.t 30, .p (.bin .geq), [.t 29, .c (.int .i32 65)], (some (.t 28, true)), 0, 0⟩, ⟨.t 31, .p (.mv), [.t 30], (some (.t 28, true)), 0, 0⟩, ⟨.t 32, .p (.mv), [.l 4], (some (.t 31, true)), 0, 0⟩, ⟨.t 33, .p (.bin .leq), [.t 32, .c (.int .i32 90)], (some (.t 31, true)), 0, 0⟩, ⟨.t 34, .p (.pick), [.t 31, .t 33, .c (.bool false)], (some (.t 28, true)), 0, 0⟩, ⟨.t 35, .p (.mv), [.t 34], (some (.t 28, true)), 0, 0⟩, ⟨.t 36, .p (.mv), [.l 4], (some (.t 35, false)), 0, 0⟩, ⟨.t 37, .p (.bin .geq), [.t 36, .c (.int .i32 48)], (some (.t 35, false)), 0, 0⟩, ⟨.t 38, .p (.mv), [.t 37], (some (.t 35, false)), 0, 0⟩, ⟨.t 39, .p (.mv), [.l 4], (some (.t 38, true)), 0, 0⟩, ⟨.t 40, .p (.bin .leq), [.t 39, .c (.int .i32 57)], (some (.t 38, true)), 0, 0⟩, ⟨.t 41, .p (.pick), [.t 38, .t 40, .c (.bool false)], (some (.t 35, false)), 0, 0⟩, ⟨.t 42, .p (.pick), [.t 35, .c (.bool true), .t 41], (some (.t 28, true)), 0, 0⟩, ⟨.t 43, .p (.mv), [.t 42], (some (.t 28, true)), 0, 0⟩, ⟨.t 44, .p (.mv), [.l 4], (some (.t 43, false)), 0, 0⟩, ⟨.t 45, .p (.bin .eql), [.t 44, .c (.int .i32 95)], (some (.t 43, false)), 0, 0⟩, ⟨.t 46, .p (.pick), [.t 43, .c (.bool true), .t 45], (some (.t 28, true)), 0, 0⟩, ⟨.t 47, .p (.mv), [.t 46], (some (.t 28, true)), 0, 0⟩, ⟨.t 48, .p (.mv), [.l 4], (some (.t 47, false)), 0, 0⟩, ⟨.t 49, .p (.bin .eql), [.t 48, .c (.int .i32 64)], (some (.t 47, false)), 0, 0⟩, ⟨.t 50, .p (.pick), [.t 47, .c (.bool true), .t 49], (some (.t 28, true)), 0, 0⟩, ⟨.t 51, .p (.pick), [.t 28, .t 50, .c (.bool false)], none, 0, 0⟩, ⟨.l 25, .p (.mv), [.t 51], none, 0, 0⟩])
 (.cond (.l 25) .skip
 (.seq (.reg [⟨.l 2, .p (.mv), [.c (.bool false)], none, 0, 0⟩])
 .ret)))))))))))))
 (.seq (.reg [⟨.l 2, .p (.mv), [.c (.bool true)], none, 0, 0⟩])
 .ret)))),
 [.tmp (.l 2)]⟩
theorem cf47_ok : compF TP Tryz.f47 = some cf47 := by kernel_rfl
def cf48 : CF := ⟨1, (.seq (.reg [⟨.l 2, .p (.mv), [.c (.bool false)], none, 0, 0⟩])
 (.seq (.seq (.reg [⟨.l 5, .p (.mv), [.l 0], none, 0, 0⟩, ⟨.l 6, .p (.leng .sl), [.l 5], none, 0, 0⟩, ⟨.l 7, .p (.mv), [.c (.int .i64 0)], none, 0, 0⟩])
 (.block 0 (.loop (.seq (.reg [⟨.l 8, .p (.bin .lss), [.l 7, .l 6], none, 0, 0⟩])
 (.seq (.cond (.l 8) .skip
 (.exit 0))
 (.seq (.block 1 (.seq (.reg [⟨.t 9, .p (.ixsl 9), [.l 5, .l 7], none, 0, 0⟩, ⟨.t 10, .r (.load true 9), [.t 9], none, 0, 0⟩, ⟨.l 4, .a (.alloc [(.int .i64 0), (.int .i64 0), (.int .i64 0), (.str 0 0), (.str 0 0), (.int .i64 0), .nils, (.str 0 0), (.int .i64 0)]), [], none, 0, 0⟩, ⟨.no, .e (.store 9), [.l 4, .t 10], none, 0, 0⟩])
 (.seq (.reg [⟨.t 11, .r (.load true 9), [.l 4], none, 0, 0⟩, ⟨.t 12, .call 29, [.t 11], none, 0, 0⟩, ⟨.l 13, .p (.un .not), [.t 12], none, 0, 0⟩])
 (.cond (.l 13) (.seq (.reg [⟨.l 2, .p (.mv), [.c (.bool false)], none, 0, 0⟩])
 .ret)
 .skip))))
 (.reg [⟨.t 14, .p (.bin .add), [.l 7, .c (.int .i64 1)], none, 0, 0⟩, ⟨.l 7, .p (.mv), [.t 14], none, 0, 0⟩])))))))
 (.seq (.reg [⟨.t 15, .p (.mv), [.l 0], none, 0, 0⟩, ⟨.t 16, .p (.leng .sl), [.t 15], none, 0, 0⟩, ⟨.t 17, .p (.bin .leq), [.t 16, .c (.int .i64 16)], none, 0, 0⟩, ⟨.l 2, .p (.mv), [.t 17], none, 0, 0⟩])
 .ret))),
 [.tmp (.l 2)]⟩
theorem cf48_ok : compF TP Tryz.f48 = some cf48 := by kernel_rfl
def cf49 : CF := ⟨2, (.seq (.reg [⟨.t 7, .p (.mv), [.l 0], none, 0, 0⟩, ⟨.t 8, .p (.nilc), [.t 7], none, 0, 0⟩, ⟨.t 9, .p (.fa 319), [.t 8], none, 0, 0⟩, ⟨.no, .e (.store 1), [.t 9, .c .nils], none, 0, 0⟩])
 (.seq (.reg [⟨.l 10, .p (.mv), [.l 1], none, 0, 0⟩, ⟨.l 11, .p (.leng .sl), [.l 10], none, 0, 0⟩, ⟨.l 12, .p (.mv), [.c (.int .i64 0)], none, 0, 0⟩])
 (.block 0 (.loop (.seq (.reg [⟨.l 13, .p (.bin .lss), [.l 12, .l 11], none, 0, 0⟩])
 (.seq (.cond (.l 13) .skip
 (.exit 0))
 (.seq (.block 1 (.seq (.reg [⟨.t 14, .p (.ixsl 9), [.l 10, .l 12], none, 0, 0⟩, ⟨.t 15, .r (.load true 9), [.t 14], none, 0, 0⟩, ⟨.l 5, .a (.alloc [(.int .i64 0), (.int .i64 0), (.int .i64 0), (.str 0 0), (.str 0 0), (.int .i64 0), .nils, (.str 0 0), (.int .i64 0)]), [], none, 0, 0⟩, ⟨.no, .e (.store 9), [.l 5, .t 15], none, 0, 0⟩])
 (.seq (.reg [⟨.t 16, .p (.mv), [.l 0], none, 0, 0⟩, ⟨.t 17, .r (.load true 9), [.l 5], none, 0, 0⟩, ⟨.t 18, .call 51, [.t 16, .t 17], none, 0, 0⟩, ⟨.l 6, .p (.mv), [.t 18], none, 0, 0⟩])
 (.reg [⟨.t 19, .p (.mv), [.l 0], none, 0, 0⟩, ⟨.t 20, .p (.mv), [.l 0], none, 0, 0⟩, ⟨.t 21, .p (.nilc), [.t 20], none, 0, 0⟩, ⟨.t 22, .p (.fa 319), [.t 21], none, 0, 0⟩, ⟨.t 23, .r (.load false 1), [.t 22], none, 0, 0⟩, ⟨.t 24, .p (.mv), [.l 6], none, 0, 0⟩, ⟨.t 25, .a (.bslice [(.int .u64 0)] 1 1 [(0, 1)]), [.t 24], none, 0, 0⟩, ⟨.t 26, .e (.append 1 8 none), [.t 23, .t 25], none, 0, 0⟩, ⟨.t 27, .p (.nilc), [.t 19], none, 0, 0⟩, ⟨.t 28, .p (.fa 319), [.t 27], none, 0, 0⟩, ⟨.no, .e (.store 1), [.t 28, .t 26], none, 0, 0⟩]))))
 (.reg [⟨.t 29, .p (.bin .add), [.l 12, .c (.int .i64 1)], none, 0, 0⟩, ⟨.l 12, .p (.mv), [.t 29], none, 0, 0⟩])))))))),
 []⟩
theorem cf49_ok : compF TP Tryz.f49 = some cf49 := by kernel_rfl
def cf50 : CF := ⟨4, (.reg [⟨.t 8, .p (.mv), [.l 0], none, 0, 0⟩, ⟨.t 9, .p (.mv), [.l 1], none, 0, 0⟩, ⟨.t 10, .p (.mv), [.l 2], none, 0, 0⟩, ⟨.t 11, .p (.mv), [.l 0], none, 0, 0⟩, ⟨.t 12, .p (.mv), [.l 0], none, 0, 0⟩, ⟨.t 13, .p (.nilc), [.t 12], none, 0, 0⟩, ⟨.t 14, .p (.fa 319), [.t 13], none, 0, 0⟩, ⟨.t 15, .r (.load false 1), [.t 14], none, 0, 0⟩, ⟨.t 16, .call 116, [.t 11, .t 15], none, 0, 0⟩, ⟨.t 17, .p (.build [(.int .i64 0), (.str 0 0), (.int .i64 0), (.int .i64 0), (.int .i64 0), (.str 0 0), (.str 0 0), (.int .i64 0), .nils, (.str 0 0), (.int .i64 0), (.str 0 0), (.str 0 0), (.str 0 0), .nils, (.int .i64 0)] [(0, 1), (12, 1), (13, 1), (14, 1)]), [.c (.int .i64 5), .t 9, .t 10, .t 16], none, 0, 0⟩, ⟨.t 18, .p (.mv), [.l 3], none, 0, 0⟩, ⟨.t 19, .call 115, [.t 8, .t 17, .t 18], none, 0, 0⟩]),
 []⟩
theorem cf50_ok : compF TP Tryz.f50 = some cf50 := by kernel_rfl
def cf51 : CF := ⟨2, (.seq (.reg [⟨.l 3, .a (.box), [.l 1], none, 0, 0⟩, ⟨.l 4, .p (.mv), [.c (.int .u64 0)], none, 0, 0⟩])
 (.seq (.regD [⟨.t 7, .p (.mv), [.l 0], none, 0, 1⟩, ⟨.t 8, .p (.mv), [.l 0], none, 0, 0⟩, ⟨.t 9, .p (.nilc), [.t 8], none, 0, 0⟩, ⟨.t 10, .p (.fa 10), [.t 9], none, 0, 0⟩, ⟨.t 11, .r (.load false 1), [.t 10], none, 0, 0⟩, ⟨.t 12, .r (.load true 9), [.l 3], none, 0, 0⟩, ⟨.t 13, .call 118, [.t 11, .t 12], none, 0, 1⟩, ⟨.t 14, .call 117, [.t 7, .t 13], none, 1, 2⟩])
 (.seq (.regD [⟨.t 16, .p (.mv), [.l 0], none, 0, 0⟩, ⟨.t 17, .p (.nilc), [.t 16], none, 0, 0⟩, ⟨.t 18, .p (.fa 10), [.t 17], none, 0, 0⟩, ⟨.t 19, .r (.load false 1), [.t 18], none, 0, 0⟩, ⟨.t 20, .r (.load true 9), [.l 3], none, 0, 0⟩, ⟨.t 21, .call 119, [.t 19, .t 20], none, 0, 1⟩, ⟨.t 15, .p (.mv), [.t 21], none, 1, 1⟩, ⟨.t 22, .p (.ext 0), [.t 15], none, 1, 1⟩, ⟨.t 23, .p (.ext 1), [.t 15], none, 1, 1⟩, ⟨.l 5, .p (.mv), [.t 22], none, 1, 1⟩, ⟨.t 6, .p (.mv), [.t 23], none, 1, 1⟩])
 (.seq (.reg [⟨.t 24, .p (.mv), [.l 5], none, 0, 0⟩, ⟨.l 4, .p (.mv), [.t 24], none, 0, 0⟩])
 .ret)))),
 [.tmp (.l 4)]⟩
theorem cf51_ok : compF TP Tryz.f51 = some cf51 := by kernel_rfl
def cf53 : CF := ⟨2, (.seq (.reg [⟨.l 4, .p (.mv), [.c (.bool false)], none, 0, 0⟩])
 (.seq (.reg [⟨.t 5, .p (.mv), [.l 0], none, 0, 0⟩, ⟨.t 6, .p (.nilc), [.t 5], none, 0, 0⟩, ⟨.t 7, .p (.fa 330), [.t 6], none, 0, 0⟩, ⟨.t 8, .p (.fa 0), [.t 7], none, 0, 0⟩, ⟨.t 9, .r (.load false 1), [.t 8], none, 0, 0⟩, ⟨.t 10, .p (.mv), [.l 1], none, 0, 0⟩, ⟨.t 11, .p (.bin .eql), [.t 9, .t 10], none, 0, 0⟩, ⟨.t 12, .p (.mv), [.t 11], none, 0, 0⟩, ⟨.t 13, .p (.mv), [.l 0], (some (.t 12, true)), 0, 0⟩, ⟨.t 14, .p (.nilc), [.t 13], (some (.t 12, true)), 0, 0⟩, ⟨.t 15, .p (.fa 329), [.t 14], (some (.t 12, true)), 0, 0⟩, ⟨.t 16, .r (.load false 1), [.t 15], (some (.t 12, true)), 0, 0⟩, ⟨.t 17, .p (.bin .eql), [.t 16, .c (.int .i64 3)], (some (.t 12, true)), 0, 0⟩, ⟨.t 18, .p (.mv), [.t 17], (some (.t 12, true)), 0, 0⟩, ⟨.t 19, .p (.mv), [.l 0], (some (.t 18, false)), 0, 0⟩, ⟨.t 20, .p (.nilc), [.t 19], (some (.t 18, false)), 0, 0⟩, ⟨.t 21, .p (.fa 329), [.t 20], (some (.t 18, false)), 0, 0⟩, ⟨.t 22, .r (.load false 1), [.t 21], (some (.t 18, false)), 0, 0⟩, ⟨.t 23, .p (.bin .eql), [.t 22, .c (.int .i64 4)], (some (.t 18, false)), 0, 0⟩, ⟨.t 24, .p (.pick), [.t 18, .c (.bool true), .t 23], (some (.t 12, true)), 0, 0⟩, ⟨.t 25, .p (.pick), [.t 12, .t 24, .c (.bool false)], none, 0, 0⟩, ⟨.l 4, .p (.mv), [.t 25], none, 0, 0⟩])
 .ret)),
 [.tmp (.l 4)]⟩
theorem cf53_ok : compF TP Tryz.f53 = some cf53 := by kernel_rfl
def cf54 : CF := ⟨3, (.seq (.reg [⟨.l 5, .a (.box), [.l 2], none, 0, 0⟩])
 (.seq (.reg [⟨.t 8, .p (.mv), [.l 0], none, 0, 0⟩, ⟨.t 9, .p (.nilc), [.t 8], none, 0, 0⟩, ⟨.t 10, .p (.fa 318), [.t 9], none, 0, 0⟩, ⟨.t 11, .r (.load false 1), [.t 10], none, 0, 0⟩, ⟨.t 12, .p (.leng .sl), [.t 11], none, 0, 0⟩, ⟨.l 6, .p (.mv), [.t 12], none, 0, 0⟩])
 (.seq (.seq (.reg [⟨.t 13, .p (.mv), [.l 6], none, 0, 0⟩, ⟨.l 14, .p (.bin .eql), [.t 13, .c (.int .i64 0)], none, 0, 0⟩])
 (.cond (.l 14) (.seq (.reg [⟨.t 15, .p (.mv), [.l 0], none, 0, 0⟩, ⟨.t 16, .p (.mv), [.l 1], none, 0, 0⟩, ⟨.t 17, .r (.load true 9), [.l 5], none, 0, 0⟩, ⟨.t 18, .p (.build [(.int .i64 0), (.str 0 0), (.int .i64 0), (.int .i64 0), (.int .i64 0), (.str 0 0), (.str 0 0), (.int .i64 0), .nils, (.str 0 0), (.int .i64 0), (.str 0 0), (.str 0 0), (.str 0 0), .nils, (.int .i64 0)] [(0, 1), (1, 1), (2, 9)]), [.c (.int .i64 2), .t 16, .t 17], none, 0, 0⟩, ⟨.t 19, .call 43, [.t 15, .t 18], none, 0, 0⟩])
 .ret)
 .skip))
 (.seq (.reg [⟨.t 20, .p (.mv), [.l 0], none, 0, 0⟩, ⟨.t 21, .p (.nilc), [.t 20], none, 0, 0⟩, ⟨.t 22, .p (.fa 318), [.t 21], none, 0, 0⟩, ⟨.t 23, .r (.load false 1), [.t 22], none, 0, 0⟩, ⟨.t 24, .p (.mv), [.l 6], none, 0, 0⟩, ⟨.t 25, .p (.bin .sub), [.t 24, .c (.int .i64 1)], none, 0, 0⟩, ⟨.t 26, .p (.ixsl 2), [.t 23, .t 25], none, 0, 0⟩, ⟨.t 27, .r (.load true 2), [.t 26], none, 0, 0⟩, ⟨.l 7, .a (.alloc [(.int .i64 0), (.int .i64 0)]), [], none, 0, 0⟩, ⟨.no, .e (.store 2), [.l 7, .t 27], none, 0, 0⟩])
 (.seq (.reg [⟨.t 28, .p (.mv), [.l 0], none, 0, 0⟩, ⟨.t 29, .p (.mv), [.l 0], none, 0, 0⟩, ⟨.t 30, .p (.nilc), [.t 29], none, 0, 0⟩, ⟨.t 31, .p (.fa 318), [.t 30], none, 0, 0⟩, ⟨.t 32, .r (.load false 1), [.t 31], none, 0, 0⟩, ⟨.t 33, .p (.mv), [.l 6], none, 0, 0⟩, ⟨.t 34, .p (.bin .sub), [.t 33, .c (.int .i64 1)], none, 0, 0⟩, ⟨.t 35, .p (.slc (.sl 2) false true false), [.t 32, .t 34], none, 0, 0⟩, ⟨.t 36, .p (.nilc), [.t 28], none, 0, 0⟩, ⟨.t 37, .p (.fa 318), [.t 36], none, 0, 0⟩, ⟨.no, .e (.store 1), [.t 37, .t 35], none, 0, 0⟩])
 (.seq (.seq (.regD [⟨.t 38, .p (.fa 0), [.l 7], none, 0, 0⟩, ⟨.t 39, .r (.load false 1), [.t 38], none, 0, 0⟩, ⟨.t 40, .p (.mv), [.l 0], none, 0, 0⟩, ⟨.t 41, .p (.nilc), [.t 40], none, 0, 0⟩, ⟨.t 42, .p (.fa 317), [.t 41], none, 0, 0⟩, ⟨.t 43, .r (.load false 1), [.t 42], none, 0, 0⟩, ⟨.t 44, .p (.leng .sl), [.t 43], none, 0, 0⟩, ⟨.l 45, .p (.bin .lss), [.t 39, .t 44], none, 0, 0⟩])
 (.cond (.l 45) (.seq (.regD [⟨.t 46, .p (.mv), [.l 0], none, 0, 0⟩, ⟨.t 47, .p (.mv), [.l 0], none, 0, 0⟩, ⟨.t 48, .p (.nilc), [.t 47], none, 0, 0⟩, ⟨.t 49, .p (.fa 317), [.t 48], none, 0, 0⟩, ⟨.t 50, .r (.load false 1), [.t 49], none, 0, 0⟩, ⟨.t 51, .p (.fa 0), [.l 7], none, 0, 0⟩, ⟨.t 52, .r (.load false 1), [.t 51], none, 0, 0⟩, ⟨.t 53, .p (.ixsl 5), [.t 50, .t 52], none, 0, 0⟩, ⟨.t 54, .r (.load true 5), [.t 53], none, 0, 0⟩, ⟨.t 55, .p (.nilc), [.t 46], none, 0, 0⟩, ⟨.t 56, .p (.fa 311), [.t 55], none, 0, 0⟩, ⟨.no, .e (.store 5), [.t 56, .t 54], none, 0, 1⟩])
 (.regD [⟨.t 57, .p (.mv), [.l 0], none, 0, 0⟩, ⟨.t 58, .p (.mv), [.l 0], none, 0, 0⟩, ⟨.t 59, .p (.nilc), [.t 58], none, 0, 0⟩, ⟨.t 60, .p (.fa 317), [.t 59], none, 0, 0⟩, ⟨.t 61, .r (.load false 1), [.t 60], none, 0, 0⟩, ⟨.t 62, .p (.fa 0), [.l 7], none, 0, 0⟩, ⟨.t 63, .r (.load false 1), [.t 62], none, 0, 0⟩, ⟨.t 64, .p (.slc (.sl 5) false true false), [.t 61, .t 63], none, 0, 0⟩, ⟨.t 65, .p (.nilc), [.t 57], none, 0, 0⟩, ⟨.t 66, .p (.fa 317), [.t 65], none, 0, 0⟩, ⟨.no, .e (.store 1), [.t 66, .t 64], none, 0, 1⟩]))
 .skip))
 (.seq (.regD [⟨.t 67, .p (.mv), [.l 0], none, 0, 0⟩, ⟨.t 68, .p (.mv), [.l 0], none, 0, 0⟩, ⟨.t 69, .p (.nilc), [.t 68], none, 0, 0⟩, ⟨.t 70, .p (.fa 310), [.t 69], none, 0, 0⟩, ⟨.t 71, .r (.load false 1), [.t 70], none, 0, 0⟩, ⟨.t 72, .p (.mv), [.l 0], none, 0, 0⟩, ⟨.t 73, .p (.nilc), [.t 72], none, 0, 0⟩, ⟨.t 74, .p (.fa 311), [.t 73], none, 0, 0⟩, ⟨.t 75, .p (.fa 2), [.t 74], none, 0, 0⟩, ⟨.t 76, .r (.load false 1), [.t 75], none, 0, 0⟩, ⟨.t 77, .p (.mv), [.l 0], none, 0, 0⟩, ⟨.t 78, .p (.nilc), [.t 77], none, 0, 0⟩, ⟨.t 79, .p (.fa 311), [.t 78], none, 0, 0⟩, ⟨.t 80, .p (.fa 3), [.t 79], none, 0, 0⟩, ⟨.t 81, .r (.load false 1), [.t 80], none, 0, 0⟩, ⟨.t 82, .p (.bin .add), [.t 76, .t 81], none, 0, 0⟩, ⟨.t 83, .p (.slc (.sl 1) false true false), [.t 71, .t 82], none, 0, 0⟩, ⟨.t 84, .p (.nilc), [.t 67], none, 0, 0⟩, ⟨.t 85, .p (.fa 310), [.t 84], none, 0, 0⟩, ⟨.no, .e (.store 1), [.t 85, .t 83], none, 0, 1⟩])
 (.seq (.reg [⟨.t 86, .p (.mv), [.l 0], none, 0, 0⟩, ⟨.t 87, .call 38, [.t 86], none, 0, 0⟩])
 (.seq (.reg [⟨.t 88, .p (.mv), [.l 0], none, 0, 0⟩, ⟨.t 89, .p (.mv), [.l 0], none, 0, 0⟩, ⟨.t 90, .p (.mv), [.l 0], none, 0, 0⟩, ⟨.t 91, .call 37, [], none, 0, 0⟩, ⟨.t 92, .call 37, [], none, 0, 0⟩, ⟨.t 93, .p (.nilc), [.t 88], none, 0, 0⟩, ⟨.t 94, .p (.fa 319), [.t 93], none, 0, 0⟩, ⟨.no, .e (.store 1), [.t 94, .c .nils], none, 0, 0⟩, ⟨.t 95, .p (.nilc), [.t 89], none, 0, 0⟩, ⟨.t 96, .p (.fa 320), [.t 95], none, 0, 0⟩, ⟨.no, .e (.store 1), [.t 96, .t 91], none, 0, 0⟩, ⟨.t 97, .p (.nilc), [.t 90], none, 0, 0⟩, ⟨.t 98, .p (.fa 321), [.t 97], none, 0, 0⟩, ⟨.no, .e (.store 1), [.t 98, .t 92], none, 0, 0⟩])
 (.seq (.regD [⟨.t 99, .p (.mv), [.l 0], none, 0, 1⟩, ⟨.t 100, .p (.mv), [.l 0], none, 0, 0⟩, ⟨.t 101, .p (.mv), [.l 1], none, 0, 0⟩, ⟨.t 103, .p (.nilc), [.t 99], none, 0, 1⟩, ⟨.t 104, .p (.fa 54), [.t 103], none, 0, 1⟩, ⟨.t 102, .call 122, [.t 100, .t 101], none, 0, 1⟩, ⟨.t 105, .p (.ixarrp 256 1), [.t 104, .c (.int .i64 0)], none, 1, 1⟩, ⟨.no, .e (.store 1), [.t 105, .t 102], none, 1, 2⟩])
 (.seq (.regD [⟨.t 106, .p (.mv), [.l 0], none, 0, 1⟩, ⟨.t 107, .p (.mv), [.l 0], none, 0, 0⟩, ⟨.t 108, .r (.load true 9), [.l 5], none, 0, 0⟩, ⟨.t 110, .p (.nilc), [.t 106], none, 0, 1⟩, ⟨.t 111, .p (.fa 54), [.t 110], none, 0, 1⟩, ⟨.t 109, .call 51, [.t 107, .t 108], none, 0, 1⟩, ⟨.t 112, .p (.ixarrp 256 1), [.t 111, .c (.int .i64 1)], none, 1, 1⟩, ⟨.no, .e (.store 1), [.t 112, .t 109], none, 1, 2⟩])
 (.reg [⟨.t 113, .p (.mv), [.l 0], none, 0, 0⟩, ⟨.t 114, .p (.mv), [.l 0], none, 0, 0⟩, ⟨.t 115, .p (.mv), [.l 0], none, 0, 0⟩, ⟨.t 116, .p (.fa 1), [.l 7], none, 0, 0⟩, ⟨.t 117, .r (.load false 1), [.t 116], none, 0, 0⟩, ⟨.t 118, .p (.nilc), [.t 113], none, 0, 0⟩, ⟨.t 119, .p (.fa 311), [.t 118], none, 0, 0⟩, ⟨.t 120, .p (.fa 1), [.t 119], none, 0, 0⟩, ⟨.no, .e (.store 1), [.t 120, .t 117], none, 0, 0⟩, ⟨.t 121, .p (.nilc), [.t 114], none, 0, 0⟩, ⟨.t 122, .p (.fa 316), [.t 121], none, 0, 0⟩, ⟨.no, .e (.store 1), [.t 122, .c (.bool true)], none, 0, 0⟩, ⟨.t 123, .p (.nilc), [.t 115], none, 0, 0⟩, ⟨.t 124, .p (.fa 329), [.t 123], none, 0, 0⟩, ⟨.no, .e (.store 1), [.t 124, .c (.int .i64 1)], none, 0, 0⟩])))))))))))),
 []⟩
theorem cf54_ok : compF TP Tryz.f54 = some cf54 := by kernel_rfl
def cf55 : CF := ⟨1, (.seq (.reg [⟨.l 2, .p (.mv), [.c (.str 0 0)], none, 0, 0⟩])
 (.seq (.seq (.reg [⟨.t 3, .p (.mv), [.l 0], none, 0, 0⟩, ⟨.t 4, .call 123, [.t 3], none, 0, 0⟩, ⟨.l 5, .p (.un .not), [.t 4], none, 0, 0⟩])
 (.cond (.l 5) (.seq (.reg [⟨.l 2, .p (.mv), [.c (.str 0 0)], none, 0, 0⟩])
 .ret)
 .skip))
 (.seq (.reg [⟨.t 6, .p (.mv), [.l 0], none, 0, 0⟩, ⟨.t 7, .p (.nilc), [.t 6], none, 0, 0⟩, ⟨.t 8, .p (.fa 0), [.t 7], none, 0, 0⟩, ⟨.t 9, .p (.fa 0), [.t 8], none, 0, 0⟩, ⟨.t 10, .p (.fa 0), [.t 9], none, 0, 0⟩, ⟨.t 11, .r (.load false 1), [.t 10], none, 0, 0⟩, ⟨.l 2, .p (.mv), [.t 11], none, 0, 0⟩])
 .ret))),
 [.tmp (.l 2)]⟩
theorem cf55_ok : compF TP Tryz.f55 = some cf55 := by kernel_rfl
def cf56 : CF := ⟨3, (.seq (.reg [⟨.l 6, .p (.mv), [.c (.int .i64 0)], none, 0, 0⟩, ⟨.l 7, .p (.mv), [.c (.bool false)], none, 0, 0⟩])
 (.seq (.seq (.reg [⟨.t 10, .p (.mv), [.l 0], none, 0, 0⟩, ⟨.t 11, .call 123, [.t 10], none, 0, 0⟩, ⟨.l 12, .p (.un .not), [.t 11], none, 0, 0⟩])
 (.cond (.l 12) (.seq (.reg [⟨.l 6, .p (.mv), [.c (.int .i64 0)], none, 0, 0⟩, ⟨.l 7, .p (.mv), [.c (.bool false)], none, 0, 0⟩])
 .ret)
 .skip))
 (.seq (.reg [⟨.t 14, .p (.mv), [.l 0], none, 0, 0⟩, ⟨.t 15, .p (.nilc), [.t 14], none, 0, 0⟩, ⟨.t 16, .p (.fa 0), [.t 15], none, 0, 0⟩, ⟨.t 17, .p (.fa 6), [.t 16], none, 0, 0⟩, ⟨.t 18, .r (.load false 1), [.t 17], none, 0, 0⟩, ⟨.t 19, .p (.mv), [.l 1], none, 0, 0⟩, ⟨.t 20, .p (.mv), [.l 2], none, 0, 0⟩, ⟨.t 21, .p (.build [(.str 0 0), (.int .i64 0)] [(0, 1), (1, 1)]), [.t 19, .t 20], none, 0, 0⟩, ⟨.t 22, .r (.lookup (.agg [.s, .i]) true (.int .i64 0)), [.t 18, .t 21], none, 0, 0⟩, ⟨.t 13, .p (.mv), [.t 22], none, 0, 0⟩, ⟨.t 23, .p (.ext 0), [.t 13], none, 0, 0⟩, ⟨.t 24, .p (.ext 1), [.t 13], none, 0, 0⟩, ⟨.l 8, .p (.mv), [.t 23], none, 0, 0⟩, ⟨.l 9, .p (.mv), [.t 24], none, 0, 0⟩])
 (.seq (.reg [⟨.t 25, .p (.mv), [.l 8], none, 0, 0⟩, ⟨.t 26, .p (.mv), [.l 9], none, 0, 0⟩, ⟨.l 6, .p (.mv), [.t 25], none, 0, 0⟩, ⟨.l 7, .p (.mv), [.t 26], none, 0, 0⟩])
 .ret)))),
 [.tmp (.l 6), .tmp (.l 7)]⟩
theorem cf56_ok : compF TP Tryz.f56 = some cf56 := by kernel_rfl
def cf57 : CF := ⟨2, (.seq (.reg [⟨.l 4, .p (.mv), [.c .nilp], none, 0, 0⟩])
 (.seq (.reg [⟨.t 6, .p (.mv), [.l 0], none, 0, 0⟩, ⟨.t 7, .p (.nilc), [.t 6], none, 0, 0⟩, ⟨.t 8, .p (.fa 12), [.t 7], none, 0, 0⟩, ⟨.t 9, .r (.load false 1), [.t 8], none, 0, 0⟩, ⟨.t 10, .p (.mv), [.l 1], none, 0, 0⟩, ⟨.t 11, .r (.lookup (.one .p) false .nilp), [.t 9, .t 10], none, 0, 0⟩, ⟨.l 5, .p (.mv), [.t 11], none, 0, 0⟩])
 (.seq (.seq (.reg [⟨.t 12, .p (.mv), [.l 5], none, 0, 0⟩, ⟨.l 13, .r (.eq (.one .p) false), [.t 12, .c .nilp], none, 0, 0⟩])
 (.cond (.l 13) (.seq (.reg [⟨.t 14, .p (.mv), [.l 1], none, 0, 0⟩, ⟨.t 15, .p (.mv), [.l 1], none, 0, 0⟩, ⟨.t 16, .call 124, [.t 15], none, 0, 0⟩, ⟨.t 17, .p (.build [.nilp, (.str 0 0), (.int .i64 0), .nils, .nils, .nils, .nils] [(0, 1), (1, 6)]), [.t 14, .t 16], none, 0, 0⟩, ⟨.t 18, .a (.box), [.t 17], none, 0, 0⟩, ⟨.l 5, .p (.mv), [.t 18], none, 0, 0⟩])
 (.reg [⟨.t 19, .p (.mv), [.l 0], none, 0, 0⟩, ⟨.t 20, .p (.nilc), [.t 19], none, 0, 0⟩, ⟨.t 21, .p (.fa 12), [.t 20], none, 0, 0⟩, ⟨.t 22, .r (.load false 1), [.t 21], none, 0, 0⟩, ⟨.t 23, .p (.mv), [.l 1], none, 0, 0⟩, ⟨.t 24, .p (.mv), [.l 5], none, 0, 0⟩, ⟨.no, .e (.mapup (.one .p)), [.t 22, .t 23, .t 24], none, 0, 0⟩]))
 .skip))
 (.seq (.reg [⟨.t 25, .p (.mv), [.l 5], none, 0, 0⟩, ⟨.l 4, .p (.mv), [.t 25], none, 0, 0⟩])
 .ret)))),
 [.tmp (.l 4)]⟩
theorem cf57_ok : compF TP Tryz.f57 = some cf57 := by kernel_rfl
def cf58 : CF := ⟨4, (.seq (.seq (.reg [⟨.t 8, .p (.mv), [.l 3], none, 0, 0⟩, ⟨.l 9, .p (.un .not), [.t 8], none, 0, 0⟩])
 (.cond (.l 9) (.seq (.seq (.reg [⟨.t 10, .p (.mv), [.l 0], none, 0, 0⟩, ⟨.t 11, .p (.nilc), [.t 10], none, 0, 0⟩, ⟨.t 12, .p (.fa 317), [.t 11], none, 0, 0⟩, ⟨.t 13, .r (.load false 1), [.t 12], none, 0, 0⟩, ⟨.t 14, .p (.leng .sl), [.t 13], none, 0, 0⟩, ⟨.l 15, .p (.bin .geq), [.t 14, .c (.int .i64 400)], none, 0, 0⟩])
 (.cond (.l 15) (.seq (.reg [⟨.t 16, .p (.mv), [.l 0], none, 0, 0⟩, ⟨.t 17, .call 125, [.t 16, .c (.str 12 36027715032999405127646542195)], none, 0, 0⟩])
 .ret)
 .skip))
 (.regD [⟨.t 18, .p (.mv), [.l 0], none, 0, 1⟩, ⟨.t 19, .p (.mv), [.l 0], none, 0, 0⟩, ⟨.t 20, .p (.nilc), [.t 19], none, 0, 0⟩, ⟨.t 21, .p (.fa 317), [.t 20], none, 0, 0⟩, ⟨.t 22, .r (.load false 1), [.t 21], none, 0, 0⟩, ⟨.t 23, .p (.mv), [.l 0], none, 0, 0⟩, ⟨.t 24, .p (.nilc), [.t 23], none, 0, 0⟩, ⟨.t 25, .p (.fa 311), [.t 24], none, 0, 0⟩, ⟨.t 26, .r (.load true 5), [.t 25], none, 0, 0⟩, ⟨.t 27, .a (.bslice [.nilp, (.int .i64 0), (.int .i64 0), (.int .i64 0), (.bool false)] 1 5 [(0, 5)]), [.t 26], none, 0, 0⟩, ⟨.t 28, .e (.append 5 40 none), [.t 22, .t 27], none, 0, 1⟩, ⟨.t 29, .p (.nilc), [.t 18], none, 1, 1⟩, ⟨.t 30, .p (.fa 317), [.t 29], none, 1, 1⟩, ⟨.no, .e (.store 1), [.t 30, .t 28], none, 1, 2⟩]))
 .skip))
 (.seq (.reg [⟨.t 31, .p (.mv), [.l 0], none, 0, 0⟩, ⟨.t 32, .p (.mv), [.l 1], none, 0, 0⟩, ⟨.t 33, .p (.mv), [.l 2], none, 0, 0⟩, ⟨.t 34, .p (.mv), [.l 0], none, 0, 0⟩, ⟨.t 35, .p (.nilc), [.t 34], none, 0, 0⟩, ⟨.t 36, .p (.fa 310), [.t 35], none, 0, 0⟩, ⟨.t 37, .r (.load false 1), [.t 36], none, 0, 0⟩, ⟨.t 38, .p (.leng .sl), [.t 37], none, 0, 0⟩, ⟨.t 39, .p (.build [.nilp, (.int .i64 0), (.int .i64 0), (.int .i64 0), (.bool false)] [(0, 1), (1, 1), (2, 1)]), [.t 32, .t 33, .t 38], none, 0, 0⟩, ⟨.t 40, .p (.nilc), [.t 31], none, 0, 0⟩, ⟨.t 41, .p (.fa 311), [.t 40], none, 0, 0⟩, ⟨.no, .e (.store 5), [.t 41, .t 39], none, 0, 0⟩])
 (.reg [⟨.t 42, .p (.mv), [.l 0], none, 0, 0⟩, ⟨.t 43, .p (.mv), [.l 0], none, 0, 0⟩, ⟨.t 44, .p (.mv), [.l 0], none, 0, 0⟩, ⟨.t 45, .call 37, [], none, 0, 0⟩, ⟨.t 46, .p (.nilc), [.t 42], none, 0, 0⟩, ⟨.t 47, .p (.fa 321), [.t 46], none, 0, 0⟩, ⟨.no, .e (.store 1), [.t 47, .t 45], none, 0, 0⟩, ⟨.t 48, .p (.nilc), [.t 43], none, 0, 0⟩, ⟨.t 49, .p (.fa 316), [.t 48], none, 0, 0⟩, ⟨.no, .e (.store 1), [.t 49, .c (.bool true)], none, 0, 0⟩, ⟨.t 50, .p (.nilc), [.t 44], none, 0, 0⟩, ⟨.t 51, .p (.fa 329), [.t 50], none, 0, 0⟩, ⟨.no, .e (.store 1), [.t 51, .c (.int .i64 2)], none, 0, 0⟩]))),
 []⟩
theorem cf58_ok : compF TP Tryz.f58 = some cf58 := by kernel_rfl
def cf63 : CF := ⟨2, (.seq (.reg [⟨.l 4, .p (.mv), [.c (.int .i64 0)], none, 0, 0⟩])
 (.seq (.regD [⟨.t 7, .p (.mv), [.l 0], none, 0, 0⟩, ⟨.t 8, .p (.nilc), [.t 7], none, 0, 0⟩, ⟨.t 9, .p (.fa 320), [.t 8], none, 0, 0⟩, ⟨.t 10, .r (.load false 1), [.t 9], none, 0, 0⟩, ⟨.t 11, .p (.mv), [.l 0], none, 0, 0⟩, ⟨.t 12, .p (.nilc), [.t 11], none, 0, 0⟩, ⟨.t 13, .p (.fa 321), [.t 12], none, 0, 0⟩, ⟨.t 14, .r (.load false 1), [.t 13], none, 0, 0⟩, ⟨.t 15, .a (.bslice [(.int .u64 0)] 2 1 [(0, 1), (1, 1)]), [.t 10, .t 14], none, 0, 0⟩, ⟨.t 16, .p (.mv), [.l 0], none, 0, 0⟩, ⟨.t 17, .p (.nilc), [.t 16], none, 0, 0⟩, ⟨.t 18, .p (.fa 54), [.t 17], none, 0, 0⟩, ⟨.t 19, .p (.slc (.arr 256 1) false false false), [.t 18], none, 0, 0⟩, ⟨.t 20, .e (.append 1 8 none), [.t 15, .t 19], none, 0, 1⟩, ⟨.l 5, .p (.mv), [.t 20], none, 1, 1⟩])
 (.seq (.regD [⟨.t 21, .p (.mv), [.l 5], none, 0, 0⟩, ⟨.t 22, .p (.mv), [.l 0], none, 0, 0⟩, ⟨.t 23, .p (.nilc), [.t 22], none, 0, 0⟩, ⟨.t 24, .p (.fa 310), [.t 23], none, 0, 0⟩, ⟨.t 25, .r (.load false 1), [.t 24], none, 0, 0⟩, ⟨.t 27, .p (.mv), [.l 0], none, 0, 1⟩, ⟨.t 28, .p (.nilc), [.t 27], none, 0, 1⟩, ⟨.t 29, .p (.fa 319), [.t 28], none, 0, 1⟩, ⟨.t 30, .r (.load false 1), [.t 29], none, 0, 1⟩, ⟨.t 26, .e (.append 1 8 none), [.t 21, .t 25], none, 0, 1⟩, ⟨.t 31, .e (.append 1 8 none), [.t 26, .t 30], none, 1, 2⟩, ⟨.l 5, .p (.mv), [.t 31], none, 2, 2⟩])
 (.seq (.reg [⟨.t 33, .p (.mv), [.l 1], none, 0, 0⟩, ⟨.t 34, .p (.mv), [.l 5], none, 0, 0⟩, ⟨.t 35, .callv, [.t 33, .t 34], none, 0, 0⟩, ⟨.t 32, .p (.mv), [.t 35], none, 0, 0⟩, ⟨.t 36, .p (.ext 0), [.t 32], none, 0, 0⟩, ⟨.t 37, .p (.ext 1), [.t 32], none, 0, 0⟩, ⟨.l 5, .p (.mv), [.t 36], none, 0, 0⟩, ⟨.l 6, .p (.mv), [.t 37], none, 0, 0⟩])
 (.seq (.seq (.reg [⟨.t 38, .p (.mv), [.l 6], none, 0, 0⟩, ⟨.l 39, .p (.bin .neq), [.t 38, .c (.int .i64 0)], none, 0, 0⟩])
 (.cond (.l 39) (.seq (.reg [⟨.t 40, .p (.mv), [.l 6], none, 0, 0⟩, ⟨.l 4, .p (.mv), [.t 40], none, 0, 0⟩])
 .ret)
 .skip))
 (.seq (.regD [⟨.t 41, .p (.mv), [.l 0], none, 0, 0⟩, ⟨.t 42, .p (.mv), [.l 0], none, 0, 1⟩, ⟨.t 43, .p (.mv), [.l 5], none, 0, 0⟩, ⟨.t 44, .p (.ixsl 1), [.t 43, .c (.int .i64 0)], none, 0, 0⟩, ⟨.t 45, .r (.load false 1), [.t 44], none, 0, 0⟩, ⟨.t 46, .p (.mv), [.l 5], none, 0, 0⟩, ⟨.t 47, .p (.ixsl 1), [.t 46, .c (.int .i64 1)], none, 0, 0⟩, ⟨.t 48, .r (.load false 1), [.t 47], none, 0, 0⟩, ⟨.t 49, .p (.mv), [.l 5], none, 0, 2⟩, ⟨.t 50, .p (.slc (.sl 1) true false false), [.t 49, .c (.int .i64 2)], none, 0, 2⟩, ⟨.t 51, .p (.nilc), [.t 41], none, 0, 0⟩, ⟨.t 52, .p (.fa 320), [.t 51], none, 0, 0⟩, ⟨.no, .e (.store 1), [.t 52, .t 45], none, 0, 1⟩, ⟨.t 53, .p (.nilc), [.t 42], none, 1, 1⟩, ⟨.t 54, .p (.fa 321), [.t 53], none, 1, 1⟩, ⟨.no, .e (.store 1), [.t 54, .t 48], none, 1, 2⟩, ⟨.l 5, .p (.mv), [.t 50], none, 2, 2⟩])
 (.seq (.reg [⟨.t 55, .p (.mv), [.l 5], none, 0, 0⟩, ⟨.t 56, .p (.mv), [.l 0], none, 0, 0⟩, ⟨.t 57, .p (.nilc), [.t 56], none, 0, 0⟩, ⟨.t 58, .p (.fa 54), [.t 57], none, 0, 0⟩, ⟨.t 59, .p (.slc (.arr 256 1) false false false), [.t 58], none, 0, 0⟩, ⟨.t 60, .p (.mv), [.l 5], none, 0, 0⟩, ⟨.t 61, .e (.copy 1), [.t 59, .t 60], none, 0, 0⟩, ⟨.t 62, .p (.slc (.sl 1) true false false), [.t 55, .t 61], none, 0, 0⟩, ⟨.l 5, .p (.mv), [.t 62], none, 0, 0⟩])
 (.seq (.reg [⟨.t 63, .p (.mv), [.l 5], none, 0, 0⟩, ⟨.t 64, .p (.mv), [.l 0], none, 0, 0⟩, ⟨.t 65, .p (.nilc), [.t 64], none, 0, 0⟩, ⟨.t 66, .p (.fa 310), [.t 65], none, 0, 0⟩, ⟨.t 67, .r (.load false 1), [.t 66], none, 0, 0⟩, ⟨.t 68, .p (.mv), [.l 5], none, 0, 0⟩, ⟨.t 69, .e (.copy 1), [.t 67, .t 68], none, 0, 0⟩, ⟨.t 70, .p (.slc (.sl 1) true false false), [.t 63, .t 69], none, 0, 0⟩, ⟨.l 5, .p (.mv), [.t 70], none, 0, 0⟩])
 (.seq (.reg [⟨.t 71, .p (.mv), [.l 0], none, 0, 0⟩, ⟨.t 72, .p (.nilc), [.t 71], none, 0, 0⟩, ⟨.t 73, .p (.fa 319), [.t 72], none, 0, 0⟩, ⟨.t 74, .r (.load false 1), [.t 73], none, 0, 0⟩, ⟨.t 75, .p (.mv), [.l 5], none, 0, 0⟩, ⟨.t 76, .e (.copy 1), [.t 74, .t 75], none, 0, 0⟩])
 (.seq (.reg [⟨.l 4, .p (.mv), [.c (.int .i64 0)], none, 0, 0⟩])
 .ret)))))))))),
 [.tmp (.l 4)]⟩
theorem cf63_ok : compF TP Tryz.f63 = some cf63 := by kernel_rfl
def cf67 : CF := ⟨1, (.seq (.reg [⟨.l 1, .a (.box), [.l 0], none, 0, 0⟩, ⟨.l 2, .p (.mv), [.c (.bool false)], none, 0, 0⟩])
 (.seq (.seq (.reg [⟨.t 4, .r (.load true 9), [.l 1], none, 0, 0⟩, ⟨.t 5, .call 132, [.t 4], none, 0, 0⟩, ⟨.t 6, .call 131, [.t 5], none, 0, 0⟩, ⟨.l 7, .p (.un .not), [.t 6], none, 0, 0⟩])
 (.cond (.l 7) (.seq (.reg [⟨.l 2, .p (.mv), [.c (.bool false)], none, 0, 0⟩])
 .ret)
 .skip))
 (.seq (.seq (.reg [⟨.l 3, .p (.mv), [.c (.int .i64 0)], none, 0, 0⟩])
 (.block 0 (.loop (.seq (.seq (.reg [⟨.t 8, .p (.mv), [.l 3], none, 0, 0⟩, ⟨.t 9, .p (.fa 6), [.l 1], none, 0, 0⟩, ⟨.t 10, .r (.load false 1), [.t 9], none, 0, 0⟩, ⟨.t 11, .p (.leng .sl), [.t 10], none, 0, 0⟩, ⟨.l 12, .p (.bin .lss), [.t 8, .t 11], none, 0, 0⟩])
 (.cond (.l 12) .skip
 (.exit 0)))
 (.seq (.block 1 (.seq (.reg [⟨.t 15, .p (.fa 6), [.l 1], none, 0, 0⟩, ⟨.t 16, .r (.load false 1), [.t 15], none, 0, 0⟩, ⟨.t 17, .p (.mv), [.l 3], none, 0, 0⟩, ⟨.t 18, .p (.ixsl 9), [.t 16, .t 17], none, 0, 0⟩, ⟨.t 19, .r (.load true 9), [.t 18], none, 0, 0⟩, ⟨.t 20, .call 67, [.t 19], none, 0, 0⟩, ⟨.l 21, .p (.un .not), [.t 20], none, 0, 0⟩])
 (.cond (.l 21) (.seq (.reg [⟨.l 2, .p (.mv), [.c (.bool false)], none, 0, 0⟩])
 .ret)
 .skip)))
 (.reg [⟨.t 13, .p (.mv), [.l 3], none, 0, 0⟩, ⟨.t 14, .p (.bin .add), [.t 13, .c (.int .i64 1)], none, 0, 0⟩, ⟨.l 3, .p (.mv), [.t 14], none, 0, 0⟩]))))))
 (.seq (.seq (.reg [⟨.t 22, .p (.fa 0), [.l 1], none, 0, 0⟩, ⟨.l 23, .r (.load false 1), [.t 22], none, 0, 0⟩])
 (.block 2 (.seq (.seq (.reg [⟨.t 25, .p (.bin .eql), [.l 23, .c (.int .i64 1)], none, 0, 0⟩, ⟨.l 24, .p (.mv), [.t 25], none, 0, 0⟩])
 (.cond (.l 24) .skip
 (.reg [⟨.t 26, .p (.bin .eql), [.l 23, .c (.int .i64 8)], none, 0, 0⟩, ⟨.l 24, .p (.mv), [.t 26], none, 0, 0⟩])))
 (.cond (.l 24) (.seq (.reg [⟨.l 2, .p (.mv), [.c (.bool true)], none, 0, 0⟩])
 .ret)
 (.seq (.reg [⟨.t 28, .p (.bin .eql), [.l 23, .c (.int .i64 2)], none, 0, 0⟩, ⟨.l 27, .p (.mv), [.t 28], none, 0, 0⟩])
 (.cond (.l 27) (.seq (.reg [⟨.t 29, .p (.fa 3), [.l 1], none, 0, 0⟩, ⟨.t 30, .r (.load false 1), [.t 29], none, 0, 0⟩, ⟨.t 31, .call 133, [.t 30], none, 0, 0⟩, ⟨.l 2, .p (.mv), [.t 31], none, 0, 0⟩])
 .ret)
 (.seq (.seq (.reg [⟨.t 33, .p (.bin .eql), [.l 23, .c (.int .i64 3)], none, 0, 0⟩, ⟨.l 32, .p (.mv), [.t 33], none, 0, 0⟩])
 (.cond (.l 32) .skip
 (.reg [⟨.t 34, .p (.bin .eql), [.l 23, .c (.int .i64 6)], none, 0, 0⟩, ⟨.l 32, .p (.mv), [.t 34], none, 0, 0⟩])))
 (.cond (.l 32) (.seq (.reg [⟨.t 35, .p (.fa 1), [.l 1], none, 0, 0⟩, ⟨.t 36, .r (.load false 1), [.t 35], none, 0, 0⟩, ⟨.t 37, .call 134, [.t 36, .c (.int .i64 1), .c (.int .i64 2147483647)], none, 0, 0⟩, ⟨.t 38, .p (.mv), [.t 37], none, 0, 0⟩, ⟨.t 39, .p (.fa 2), [.l 1], (some (.t 38, true)), 0, 0⟩, ⟨.t 40, .r (.load false 1), [.t 39], (some (.t 38, true)), 0, 0⟩, ⟨.t 41, .call 134, [.t 40, .c (.int .i64 1), .c (.int .i64 2147483647)], (some (.t 38, true)), 0, 0⟩, ⟨.t 42, .p (.pick), [.t 38, .t 41, .c (.bool false)], none, 0, 0⟩, ⟨.t 43, .p (.mv), [.t 42], none, 0, 0⟩, ⟨.t 44, .p (.fa 3), [.l 1], (some (.t 43, true)), 0, 0⟩, ⟨.t 45, .r (.load false 1), [.t 44], (some (.t 43, true)), 0, 0⟩, ⟨.t 46, .call 133, [.t 45], (some (.t 43, true)), 0, 0⟩, ⟨.t 47, .p (.pick), [.t 43, .t 46, .c (.bool false)], none, 0, 0⟩, ⟨.l 2, .p (.mv), [.t 47], none, 0, 0⟩])
 .ret)
 (.seq (.reg [⟨.t 49, .p (.bin .eql), [.l 23, .c (.int .i64 4)], none, 0, 0⟩, ⟨.l 48, .p (.mv), [.t 49], none, 0, 0⟩])
 (.cond (.l 48) (.seq (.reg [⟨.t 50, .p (.fa 1), [.l 1], none, 0, 0⟩, ⟨.t 51, .r (.load false 1), [.t 50], none, 0, 0⟩, ⟨.t 52, .call 134, [.t 51, .c (.int .i64 0), .c (.int .i64 999)], none, 0, 0⟩, ⟨.t 53, .p (.mv), [.t 52], none, 0, 0⟩, ⟨.t 54, .p (.fa 2), [.l 1], (some (.t 53, true)), 0, 0⟩, ⟨.t 55, .r (.load false 1), [.t 54], (some (.t 53, true)), 0, 0⟩, ⟨.t 56, .call 134, [.t 55, .c (.int .i64 1), .c (.int .i64 2147483647)], (some (.t 53, true)), 0, 0⟩, ⟨.t 57, .p (.pick), [.t 53, .t 56, .c (.bool false)], none, 0, 0⟩, ⟨.t 58, .p (.mv), [.t 57], none, 0, 0⟩, ⟨.t 59, .p (.fa 3), [.l 1], (some (.t 58, true)), 0, 0⟩, ⟨.t 60, .r (.load false 1), [.t 59], (some (.t 58, true)), 0, 0⟩, ⟨.t 61, .call 133, [.t 60], (some (.t 58, true)), 0, 0⟩, ⟨.t 62, .p (.pick), [.t 58, .t 61, .c (.bool false)], none, 0, 0⟩, ⟨.t 63, .p (.mv), [.t 62], none, 0, 0⟩, ⟨.t 64, .p (.fa 5), [.l 1], (some (.t 63, true)), 0, 0⟩, ⟨.t 65, .r (.load false 1), [.t 64], (some (.t 63, true)), 0, 0⟩, ⟨.t 66, .call 134, [.t 65, .c (.int .i64 0), .c (.int .i64 16)], (some (.t 63, true)), 0, 0⟩, ⟨.t 67, .p (.pick), [.t 63, .t 66, .c (.bool false)], none, 0, 0⟩, ⟨.t 68, .p (.mv), [.t 67], none, 0, 0⟩, ⟨.t 69, .p (.fa 6), [.l 1], (some (.t 68, true)), 0, 0⟩, ⟨.t 70, .r (.load false 1), [.t 69], (some (.t 68, true)), 0, 0⟩, ⟨.t 71, .p (.leng .sl), [.t 70], (some (.t 68, true)), 0, 0⟩, ⟨.t 72, .p (.bin .leq), [.t 71, .c (.int .i64 200)], (some (.t 68, true)), 0, 0⟩, ⟨.t 73, .p (.pick), [.t 68, .t 72, .c (.bool false)], none, 0, 0⟩, ⟨.l 2, .p (.mv), [.t 73], none, 0, 0⟩])
 .ret)
 (.seq (.reg [⟨.t 75, .p (.bin .eql), [.l 23, .c (.int .i64 5)], none, 0, 0⟩, ⟨.l 74, .p (.mv), [.t 75], none, 0, 0⟩])
 (.cond (.l 74) (.seq (.reg [⟨.t 76, .p (.fa 3), [.l 1], none, 0, 0⟩, ⟨.t 77, .r (.load false 1), [.t 76], none, 0, 0⟩, ⟨.t 78, .call 133, [.t 77], none, 0, 0⟩, ⟨.t 79, .p (.mv), [.t 78], none, 0, 0⟩, ⟨.t 80, .p (.fa 4), [.l 1], (some (.t 79, true)), 0, 0⟩, ⟨.t 81, .r (.load false 1), [.t 80], (some (.t 79, true)), 0, 0⟩, ⟨.t 82, .call 133, [.t 81], (some (.t 79, true)), 0, 0⟩, ⟨.t 83, .p (.pick), [.t 79, .t 82, .c (.bool false)], none, 0, 0⟩, ⟨.t 84, .p (.mv), [.t 83], none, 0, 0⟩, ⟨.t 85, .p (.fa 5), [.l 1], (some (.t 84, true)), 0, 0⟩, ⟨.t 86, .r (.load false 1), [.t 85], (some (.t 84, true)), 0, 0⟩, ⟨.t 87, .call 134, [.t 86, .c (.int .i64 0), .c (.int .i64 16)], (some (.t 84, true)), 0, 0⟩, ⟨.t 88, .p (.pick), [.t 84, .t 87, .c (.bool false)], none, 0, 0⟩, ⟨.l 2, .p (.mv), [.t 88], none, 0, 0⟩])
 .ret)
 (.seq (.reg [⟨.t 90, .p (.bin .eql), [.l 23, .c (.int .i64 7)], none, 0, 0⟩, ⟨.l 89, .p (.mv), [.t 90], none, 0, 0⟩])
 (.cond (.l 89) (.seq (.reg [⟨.t 91, .p (.fa 6), [.l 1], none, 0, 0⟩, ⟨.t 92, .r (.load false 1), [.t 91], none, 0, 0⟩, ⟨.t 93, .p (.leng .sl), [.t 92], none, 0, 0⟩, ⟨.t 94, .p (.bin .leq), [.t 93, .c (.int .i64 255)], none, 0, 0⟩, ⟨.l 2, .p (.mv), [.t 94], none, 0, 0⟩])
 .ret)
 (.seq (.reg [⟨.t 96, .p (.bin .eql), [.l 23, .c (.int .i64 9)], none, 0, 0⟩, ⟨.l 95, .p (.mv), [.t 96], none, 0, 0⟩])
 (.cond (.l 95) (.seq (.reg [⟨.t 97, .p (.fa 6), [.l 1], none, 0, 0⟩, ⟨.t 98, .r (.load false 1), [.t 97], none, 0, 0⟩, ⟨.t 99, .p (.leng .sl), [.t 98], none, 0, 0⟩, ⟨.t 100, .p (.bin .geq), [.t 99, .c (.int .i64 2)], none, 0, 0⟩, ⟨.t 101, .p (.mv), [.t 100], none, 0, 0⟩, ⟨.t 102, .p (.fa 6), [.l 1], (some (.t 101, true)), 0, 0⟩, ⟨.t 103, .r (.load false 1), [.t 102], (some (.t 101, true)), 0, 0⟩, ⟨.t 104, .p (.fa 6), [.l 1], (some (.t 101, true)), 0, 0⟩, ⟨.t 105, .r (.load false 1), [.t 104], (some (.t 101, true)), 0, 0⟩, ⟨.t 106, .p (.leng .sl), [.t 105], (some (.t 101, true)), 0, 0⟩, ⟨.t 107, .p (.bin .sub), [.t 106, .c (.int .i64 1)], (some (.t 101, true)), 0, 0⟩, ⟨.t 108, .p (.ixsl 9), [.t 103, .t 107], (some (.t 101, true)), 0, 0⟩, ⟨.t 109, .p (.fa 0), [.t 108], (some (.t 101, true)), 0, 0⟩, ⟨.t 110, .r (.load false 1), [.t 109], (some (.t 101, true)), 0, 0⟩, ⟨.t 111, .p (.bin .neq), [.t 110, .c (.int .i64 9)], (some (.t 101, true)), 0, 0⟩, ⟨.t 112, .p (.pick), [.t 101, .t 111, .c (.bool false)], none, 0, 0⟩, ⟨.l 2, .p (.mv), [.t 112], none, 0, 0⟩])
 .ret)
 (.seq (.reg [⟨.t 114, .p (.bin .eql), [.l 23, .c (.int .i64 10)], none, 0, 0⟩, ⟨.l 113, .p (.mv), [.t 114], none, 0, 0⟩])
 (.cond (.l 113) (.seq (.reg [⟨.t 115, .r (.load true 9), [.l 1], none, 0, 0⟩, ⟨.t 116, .call 135, [.t 115], none, 0, 0⟩, ⟨.l 2, .p (.mv), [.t 116], none, 0, 0⟩])
 .ret)
 .skip))))))))))))))))))
 (.seq (.reg [⟨.l 2, .p (.mv), [.c (.bool false)], none, 0, 0⟩])
 .ret))))),
 [.tmp (.l 2)]⟩
theorem cf67_ok : compF TP Tryz.f67 = some cf67 := by kernel_rfl
def cf68 : CF := ⟨1, (.seq (.reg [⟨.l 1, .a (.box), [.l 0], none, 0, 0⟩, ⟨.l 2, .p (.mv), [.c (.int .i64 0)], none, 0, 0⟩])
 (.seq (.reg [⟨.l 3, .p (.mv), [.c (.int .i64 1)], none, 0, 0⟩])
 (.seq (.seq (.reg [⟨.t 5, .p (.fa 0), [.l 1], none, 0, 0⟩, ⟨.l 6, .r (.load false 1), [.t 5], none, 0, 0⟩])
 (.block 0 (.seq (.reg [⟨.t 8, .p (.bin .eql), [.l 6, .c (.int .i64 9)], none, 0, 0⟩, ⟨.l 7, .p (.mv), [.t 8], none, 0, 0⟩])
 (.cond (.l 7) (.reg [⟨.t 9, .p (.fa 6), [.l 1], none, 0, 0⟩, ⟨.t 10, .r (.load false 1), [.t 9], none, 0, 0⟩, ⟨.t 11, .p (.leng .sl), [.t 10], none, 0, 0⟩, ⟨.t 12, .p (.bin .sub), [.t 11, .c (.int .i64 1)], none, 0, 0⟩, ⟨.l 3, .p (.mv), [.t 12], none, 0, 0⟩])
 (.seq (.reg [⟨.t 14, .p (.bin .eql), [.l 6, .c (.int .i64 10)], none, 0, 0⟩, ⟨.l 13, .p (.mv), [.t 14], none, 0, 0⟩])
 (.cond (.l 13) (.reg [⟨.t 15, .p (.fa 8), [.l 1], none, 0, 0⟩, ⟨.t 16, .r (.load false 1), [.t 15], none, 0, 0⟩, ⟨.t 17, .p (.bin .add), [.t 16, .c (.int .i64 63)], none, 0, 0⟩, ⟨.t 18, .p (.bin .quo), [.t 17, .c (.int .i64 64)], none, 0, 0⟩, ⟨.t 19, .p (.bin .add), [.c (.int .i64 1), .t 18], none, 0, 0⟩, ⟨.l 3, .p (.mv), [.t 19], none, 0, 0⟩])
 .skip))))))
 (.seq (.seq (.reg [⟨.l 4, .p (.mv), [.c (.int .i64 0)], none, 0, 0⟩])
 (.block 1 (.loop (.seq (.seq (.reg [⟨.t 20, .p (.mv), [.l 4], none, 0, 0⟩, ⟨.t 21, .p (.fa 6), [.l 1], none, 0, 0⟩, ⟨.t 22, .r (.load false 1), [.t 21], none, 0, 0⟩, ⟨.t 23, .p (.leng .sl), [.t 22], none, 0, 0⟩, ⟨.l 24, .p (.bin .lss), [.t 20, .t 23], none, 0, 0⟩])
 (.cond (.l 24) .skip
 (.exit 1)))
 (.seq (.block 2 (.reg [⟨.t 27, .p (.mv), [.l 3], none, 0, 0⟩, ⟨.t 28, .p (.fa 6), [.l 1], none, 0, 0⟩, ⟨.t 29, .r (.load false 1), [.t 28], none, 0, 0⟩, ⟨.t 30, .p (.mv), [.l 4], none, 0, 0⟩, ⟨.t 31, .p (.ixsl 9), [.t 29, .t 30], none, 0, 0⟩, ⟨.t 32, .r (.load true 9), [.t 31], none, 0, 0⟩, ⟨.t 33, .call 68, [.t 32], none, 0, 0⟩, ⟨.t 34, .p (.bin .add), [.t 27, .t 33], none, 0, 0⟩, ⟨.l 3, .p (.mv), [.t 34], none, 0, 0⟩]))
 (.reg [⟨.t 25, .p (.mv), [.l 4], none, 0, 0⟩, ⟨.t 26, .p (.bin .add), [.t 25, .c (.int .i64 1)], none, 0, 0⟩, ⟨.l 4, .p (.mv), [.t 26], none, 0, 0⟩]))))))
 (.seq (.reg [⟨.t 35, .p (.mv), [.l 3], none, 0, 0⟩, ⟨.l 2, .p (.mv), [.t 35], none, 0, 0⟩])
 .ret))))),
 [.tmp (.l 2)]⟩
theorem cf68_ok : compF TP Tryz.f68 = some cf68 := by kernel_rfl
def cf69 : CF := ⟨1, (.seq (.reg [⟨.l 1, .a (.box), [.l 0], none, 0, 0⟩, ⟨.l 2, .p (.mv), [.c (.int .i64 0)], none, 0, 0⟩])
 (.seq (.seq (.reg [⟨.t 6, .r (.load true 9), [.l 1], none, 0, 0⟩, ⟨.t 7, .a (.bslice [(.int .i64 0), (.int .i64 0), (.int .i64 0), (.str 0 0), (.str 0 0), (.int .i64 0), .nils, (.str 0 0), (.int .i64 0)] 1 9 [(0, 9)]), [.t 6], none, 0, 0⟩, ⟨.t 8, .call 136, [.t 7], none, 0, 0⟩, ⟨.t 5, .p (.mv), [.t 8], none, 0, 0⟩, ⟨.t 9, .p (.ext 0), [.t 5], none, 0, 0⟩, ⟨.t 10, .p (.ext 1), [.t 5], none, 0, 0⟩, ⟨.l 3, .p (.mv), [.t 9], none, 0, 0⟩, ⟨.l 4, .p (.mv), [.t 10], none, 0, 0⟩])
 (.block 0 (.seq (.reg [⟨.t 12, .p (.mv), [.l 4], none, 0, 0⟩, ⟨.t 13, .p (.un .not), [.t 12], none, 0, 0⟩, ⟨.l 11, .p (.mv), [.t 13], none, 0, 0⟩])
 (.cond (.l 11) (.seq (.reg [⟨.l 2, .p (.mv), [.c (.int .i64 2)], none, 0, 0⟩])
 .ret)
 (.seq (.reg [⟨.t 15, .p (.mv), [.l 3], none, 0, 0⟩, ⟨.t 16, .p (.bin .gtr), [.t 15, .c (.int .i64 2000)], none, 0, 0⟩, ⟨.l 14, .p (.mv), [.t 16], none, 0, 0⟩])
 (.cond (.l 14) (.seq (.reg [⟨.l 2, .p (.mv), [.c (.int .i64 3)], none, 0, 0⟩])
 .ret)
 .skip))))))
 (.seq (.reg [⟨.l 2, .p (.mv), [.c (.int .i64 0)], none, 0, 0⟩])
 .ret))),
 [.tmp (.l 2)]⟩
theorem cf69_ok : compF TP Tryz.f69 = some cf69 := by kernel_rfl
def cf70 : CF := ⟨1, (.seq (.reg [⟨.l 2, .p (.mv), [.c (.bool false)], none, 0, 0⟩])
 (.seq (.reg [⟨.t 3, .p (.mv), [.l 0], none, 0, 0⟩, ⟨.t 4, .r (.eq (.one .p) false), [.t 3, .c .nilp], none, 0, 0⟩, ⟨.t 5, .p (.mv), [.t 4], none, 0, 0⟩, ⟨.t 6, .p (.mv), [.l 0], (some (.t 5, false)), 0, 0⟩, ⟨.t 7, .p (.nilc), [.t 6], (some (.t 5, false)), 0, 0⟩, ⟨.t 8, .p (.fa 0), [.t 7], (some (.t 5, false)), 0, 0⟩, ⟨.t 9, .r (.load false 1), [.t 8], (some (.t 5, false)), 0, 0⟩, ⟨.t 10, .p (.un .not), [.t 9], (some (.t 5, false)), 0, 0⟩, ⟨.t 11, .p (.pick), [.t 5, .c (.bool true), .t 10], none, 0, 0⟩, ⟨.l 2, .p (.mv), [.t 11], none, 0, 0⟩])
 .ret)),
 [.tmp (.l 2)]⟩
theorem cf70_ok : compF TP Tryz.f70 = some cf70 := by kernel_rfl
def cf72 : CF := ⟨3, (.seq (.reg [⟨.l 6, .p (.mv), [.c (.int .i64 0)], none, 0, 0⟩])
 (.seq (.seq (.reg [⟨.t 9, .p (.mv), [.l 0], none, 0, 0⟩, ⟨.t 10, .call 137, [.t 9], none, 0, 0⟩, ⟨.l 11, .p (.un .not), [.t 10], none, 0, 0⟩])
 (.cond (.l 11) (.seq (.reg [⟨.l 6, .p (.mv), [.c (.int .i64 1)], none, 0, 0⟩])
 .ret)
 .skip))
 (.seq (.reg [⟨.t 13, .p (.mv), [.l 0], none, 0, 0⟩, ⟨.t 14, .p (.nilc), [.t 13], none, 0, 0⟩, ⟨.t 15, .p (.fa 1), [.t 14], none, 0, 0⟩, ⟨.t 16, .r (.load false 1), [.t 15], none, 0, 0⟩, ⟨.t 17, .p (.mv), [.l 1], none, 0, 0⟩, ⟨.t 18, .r (.lookup (.one .i) true (.agg [(.str 0 0), (.int .i64 0)])), [.t 16, .t 17], none, 0, 0⟩, ⟨.t 12, .p (.mv), [.t 18], none, 0, 0⟩, ⟨.t 19, .p (.ext 0), [.t 12], none, 0, 0⟩, ⟨.t 20, .p (.ext 1), [.t 12], none, 0, 0⟩, ⟨.l 7, .a (.alloc [(.str 0 0), (.int .i64 0)]), [], none, 0, 0⟩, ⟨.no, .e (.store 2), [.l 7, .t 19], none, 0, 0⟩, ⟨.l 8, .p (.mv), [.t 20], none, 0, 0⟩])
 (.seq (.seq (.reg [⟨.t 21, .p (.mv), [.l 8], none, 0, 0⟩, ⟨.l 22, .p (.un .not), [.t 21], none, 0, 0⟩])
 (.cond (.l 22) (.seq (.reg [⟨.l 6, .p (.mv), [.c (.int .i64 4)], none, 0, 0⟩])
 .ret)
 .skip))
 (.seq (.reg [⟨.t 23, .p (.fa 1), [.l 7], none, 0, 0⟩, ⟨.t 24, .r (.load false 1), [.t 23], none, 0, 0⟩, ⟨.t 25, .p (.mv), [.l 2], none, 0, 0⟩, ⟨.t 26, .p (.bin .add), [.t 24, .t 25], none, 0, 0⟩, ⟨.t 27, .p (.fa 1), [.l 7], none, 0, 0⟩, ⟨.no, .e (.store 1), [.t 27, .t 26], none, 0, 0⟩])
 (.seq (.seq (.reg [⟨.t 28, .p (.fa 1), [.l 7], none, 0, 0⟩, ⟨.t 29, .r (.load false 1), [.t 28], none, 0, 0⟩, ⟨.l 30, .p (.bin .gtr), [.t 29, .c (.int .i64 0)], none, 0, 0⟩])
 (.cond (.l 30) (.seq (.regD [⟨.t 31, .p (.mv), [.l 0], none, 0, 0⟩, ⟨.t 32, .p (.nilc), [.t 31], none, 0, 0⟩, ⟨.t 33, .p (.fa 1), [.t 32], none, 0, 0⟩, ⟨.t 34, .r (.load false 1), [.t 33], none, 0, 0⟩, ⟨.t 35, .p (.mv), [.l 1], none, 0, 0⟩, ⟨.t 36, .r (.load true 2), [.l 7], none, 0, 0⟩, ⟨.no, .e (.mapup (.one .i)), [.t 34, .t 35, .t 36], none, 0, 1⟩])
 (.seq (.reg [⟨.l 6, .p (.mv), [.c (.int .i64 0)], none, 0, 0⟩])
 .ret))
 .skip))
 (.seq (.reg [⟨.t 37, .p (.mv), [.l 0], none, 0, 0⟩, ⟨.t 38, .p (.nilc), [.t 37], none, 0, 0⟩, ⟨.t 39, .p (.fa 1), [.t 38], none, 0, 0⟩, ⟨.t 40, .r (.load false 1), [.t 39], none, 0, 0⟩, ⟨.t 41, .p (.mv), [.l 1], none, 0, 0⟩, ⟨.no, .e (.delete (.one .i)), [.t 40, .t 41], none, 0, 0⟩])
 (.seq (.regD [⟨.t 42, .p (.mv), [.l 0], none, 0, 0⟩, ⟨.t 43, .p (.nilc), [.t 42], none, 0, 0⟩, ⟨.t 44, .p (.fa 0), [.t 43], none, 0, 0⟩, ⟨.t 45, .r (.load false 1), [.t 44], none, 0, 0⟩, ⟨.t 46, .p (.fa 0), [.l 7], none, 0, 0⟩, ⟨.t 47, .r (.load false 1), [.t 46], none, 0, 0⟩, ⟨.no, .e (.delete (.one .s)), [.t 45, .t 47], none, 0, 1⟩])
 (.seq (.regD [⟨.t 48, .p (.mv), [.l 0], none, 0, 0⟩, ⟨.t 49, .p (.nilc), [.t 48], none, 0, 0⟩, ⟨.t 50, .p (.fa 3), [.t 49], none, 0, 0⟩, ⟨.t 51, .r (.load false 1), [.t 50], none, 0, 0⟩, ⟨.t 52, .p (.fa 0), [.l 7], none, 0, 0⟩, ⟨.t 53, .r (.load false 1), [.t 52], none, 0, 0⟩, ⟨.t 54, .p (.leng .str), [.t 53], none, 0, 0⟩, ⟨.t 55, .p (.bin .sub), [.t 51, .t 54], none, 0, 0⟩, ⟨.t 56, .p (.nilc), [.t 48], none, 0, 0⟩, ⟨.t 57, .p (.fa 3), [.t 56], none, 0, 0⟩, ⟨.no, .e (.store 1), [.t 57, .t 55], none, 0, 1⟩])
 (.seq (.reg [⟨.l 6, .p (.mv), [.c (.int .i64 0)], none, 0, 0⟩])
 .ret)))))))))),
 [.tmp (.l 6)]⟩
theorem cf72_ok : compF TP Tryz.f72 = some cf72 := by kernel_rfl
def cf73 : CF := ⟨1, (.seq (.reg [⟨.l 2, .p (.mv), [.c (.bool false)], none, 0, 0⟩])
 (.seq (.reg [⟨.t 3, .p (.mv), [.l 0], none, 0, 0⟩, ⟨.t 4, .r (.eq (.one .p) true), [.t 3, .c .nilp], none, 0, 0⟩, ⟨.t 5, .p (.mv), [.t 4], none, 0, 0⟩, ⟨.t 6, .p (.mv), [.l 0], (some (.t 5, true)), 0, 0⟩, ⟨.t 7, .p (.nilc), [.t 6], (some (.t 5, true)), 0, 0⟩, ⟨.t 8, .p (.fa 0), [.t 7], (some (.t 5, true)), 0, 0⟩, ⟨.t 9, .r (.load false 1), [.t 8], (some (.t 5, true)), 0, 0⟩, ⟨.t 10, .p (.eqd .m true), [.t 9, .c .nilm], (some (.t 5, true)), 0, 0⟩, ⟨.t 11, .p (.pick), [.t 5, .t 10, .c (.bool false)], none, 0, 0⟩, ⟨.l 2, .p (.mv), [.t 11], none, 0, 0⟩])
 .ret)),
 [.tmp (.l 2)]⟩
theorem cf73_ok : compF TP Tryz.f73 = some cf73 := by kernel_rfl
def cf74 : CF := ⟨1, (.seq (.reg [⟨.l 2, .p (.mv), [.c .nils], none, 0, 0⟩])
 (.seq (.reg [⟨.t 6, .p (.mv), [.l 0], none, 0, 0⟩, ⟨.t 7, .p (.leng .sl), [.t 6], none, 0, 0⟩, ⟨.t 8, .a (.mks [(.int .i64 0), (.int .i64 0), (.int .i64 0), (.str 0 0), (.str 0 0), (.int .i64 0), .nils, (.str 0 0), (.int .i64 0)] 112), [.c (.int .i64 0), .t 7], none, 0, 0⟩, ⟨.l 3, .p (.mv), [.t 8], none, 0, 0⟩])
 (.seq (.seq (.reg [⟨.l 9, .p (.mv), [.l 0], none, 0, 0⟩, ⟨.l 10, .p (.leng .sl), [.l 9], none, 0, 0⟩, ⟨.l 11, .p (.mv), [.c (.int .i64 0)], none, 0, 0⟩])
 (.block 0 (.loop (.seq (.reg [⟨.l 12, .p (.bin .lss), [.l 11, .l 10], none, 0, 0⟩])
 (.seq (.cond (.l 12) .skip
 (.exit 0))
 (.seq (.block 1 (.seq (.reg [⟨.t 13, .p (.ixsl 9), [.l 9, .l 11], none, 0, 0⟩, ⟨.t 14, .r (.load true 9), [.t 13], none, 0, 0⟩, ⟨.l 5, .a (.alloc [(.int .i64 0), (.int .i64 0), (.int .i64 0), (.str 0 0), (.str 0 0), (.int .i64 0), .nils, (.str 0 0), (.int .i64 0)]), [], none, 0, 0⟩, ⟨.no, .e (.store 9), [.l 5, .t 14], none, 0, 0⟩])
 (.reg [⟨.t 15, .p (.mv), [.l 3], none, 0, 0⟩, ⟨.t 16, .r (.load true 9), [.l 5], none, 0, 0⟩, ⟨.t 17, .call 35, [.t 16], none, 0, 0⟩, ⟨.t 18, .a (.bslice [(.int .i64 0), (.int .i64 0), (.int .i64 0), (.str 0 0), (.str 0 0), (.int .i64 0), .nils, (.str 0 0), (.int .i64 0)] 1 9 [(0, 9)]), [.t 17], none, 0, 0⟩, ⟨.t 19, .e (.append 9 112 none), [.t 15, .t 18], none, 0, 0⟩, ⟨.l 3, .p (.mv), [.t 19], none, 0, 0⟩])))
 (.reg [⟨.t 20, .p (.bin .add), [.l 11, .c (.int .i64 1)], none, 0, 0⟩, ⟨.l 11, .p (.mv), [.t 20], none, 0, 0⟩])))))))
 (.seq (.reg [⟨.t 21, .p (.mv), [.l 3], none, 0, 0⟩, ⟨.l 2, .p (.mv), [.t 21], none, 0, 0⟩])
 .ret)))),
 [.tmp (.l 2)]⟩
theorem cf74_ok : compF TP Tryz.f74 = some cf74 := by kernel_rfl
def cf75 : CF := ⟨2, (.regD [⟨.t 4, .p (.mv), [.l 0], none, 0, 1⟩, ⟨.t 5, .p (.mv), [.l 1], none, 0, 1⟩, ⟨.t 6, .p (.nilc), [.t 5], none, 0, 1⟩, ⟨.t 7, .p (.fa 1), [.t 6], none, 0, 1⟩, ⟨.t 8, .r (.load true 2), [.t 7], none, 0, 1⟩, ⟨.t 9, .p (.mv), [.l 0], none, 0, 0⟩, ⟨.t 10, .p (.mv), [.l 1], none, 0, 0⟩, ⟨.t 11, .p (.nilc), [.t 10], none, 0, 0⟩, ⟨.t 12, .p (.fa 3), [.t 11], none, 0, 0⟩, ⟨.t 13, .r (.load false 1), [.t 12], none, 0, 0⟩, ⟨.t 14, .call 139, [.t 9, .t 13, .c (.int .i64 0)], none, 0, 1⟩, ⟨.t 15, .p (.ixsl 1), [.t 14, .c (.int .i64 0)], none, 1, 1⟩, ⟨.t 16, .r (.load false 1), [.t 15], none, 1, 1⟩, ⟨.t 17, .call 138, [.t 4, .t 8, .t 16], none, 1, 2⟩]),
 []⟩
theorem cf75_ok : compF TP Tryz.f75 = some cf75 := by kernel_rfl
def cf82 : CF := ⟨2, (.seq (.reg [⟨.t 9, .p (.mv), [.l 0], none, 0, 0⟩, ⟨.t 10, .p (.mv), [.l 1], none, 0, 0⟩, ⟨.t 11, .p (.nilc), [.t 10], none, 0, 0⟩, ⟨.t 12, .p (.fa 3), [.t 11], none, 0, 0⟩, ⟨.t 13, .r (.load false 1), [.t 12], none, 0, 0⟩, ⟨.t 14, .call 139, [.t 9, .t 13, .c (.int .i64 0)], none, 0, 0⟩, ⟨.t 15, .p (.ixsl 1), [.t 14, .c (.int .i64 0)], none, 0, 0⟩, ⟨.t 16, .r (.load false 1), [.t 15], none, 0, 0⟩, ⟨.l 4, .p (.mv), [.t 16], none, 0, 0⟩])
 (.seq (.reg [⟨.t 17, .p (.mv), [.l 1], none, 0, 0⟩, ⟨.t 18, .p (.nilc), [.t 17], none, 0, 0⟩, ⟨.t 19, .p (.fa 4), [.t 18], none, 0, 0⟩, ⟨.t 20, .r (.load false 1), [.t 19], none, 0, 0⟩, ⟨.l 5, .p (.mv), [.t 20], none, 0, 0⟩])
 (.seq (.seq (.reg [⟨.t 21, .p (.mv), [.l 0], none, 0, 0⟩, ⟨.t 22, .p (.nilc), [.t 21], none, 0, 0⟩, ⟨.t 23, .p (.fa 10), [.t 22], none, 0, 0⟩, ⟨.t 24, .r (.load false 1), [.t 23], none, 0, 0⟩, ⟨.t 25, .p (.mv), [.l 4], none, 0, 0⟩, ⟨.l 26, .call 126, [.t 24, .t 25], none, 0, 0⟩])
 (.block 0 (.seq (.seq (.reg [⟨.t 28, .p (.bin .eql), [.l 26, .c (.int .i64 1)], none, 0, 0⟩, ⟨.l 27, .p (.mv), [.t 28], none, 0, 0⟩])
 (.cond (.l 27) .skip
 (.seq (.reg [⟨.t 29, .p (.bin .eql), [.l 26, .c (.int .i64 2)], none, 0, 0⟩, ⟨.l 27, .p (.mv), [.t 29], none, 0, 0⟩])
 (.cond (.l 27) .skip
 (.reg [⟨.t 30, .p (.bin .eql), [.l 26, .c (.int .i64 8)], none, 0, 0⟩, ⟨.l 27, .p (.mv), [.t 30], none, 0, 0⟩])))))
 (.cond (.l 27) (.seq (.reg [⟨.t 31, .p (.mv), [.l 0], none, 0, 0⟩, ⟨.t 32, .p (.mv), [.l 4], none, 0, 0⟩, ⟨.t 33, .call 120, [.t 31, .t 32], none, 0, 0⟩, ⟨.l 6, .a (.alloc [(.int .i64 0), (.int .i64 0), (.int .i64 0), (.str 0 0), (.str 0 0), (.int .i64 0), .nils, (.str 0 0), (.int .i64 0)]), [], none, 0, 0⟩, ⟨.no, .e (.store 9), [.l 6, .t 33], none, 0, 0⟩])
 (.seq (.reg [⟨.t 34, .p (.mv), [.l 1], none, 0, 0⟩, ⟨.t 35, .p (.nilc), [.t 34], none, 0, 0⟩, ⟨.t 36, .p (.fa 8), [.t 35], none, 0, 0⟩, ⟨.l 37, .r (.load false 1), [.t 36], none, 0, 0⟩, ⟨.l 38, .p (.leng .sl), [.l 37], none, 0, 0⟩, ⟨.l 39, .p (.mv), [.c (.int .i64 0)], none, 0, 0⟩])
 (.block 1 (.loop (.seq (.reg [⟨.l 40, .p (.bin .lss), [.l 39, .l 38], none, 0, 0⟩])
 (.seq (.cond (.l 40) .skip
 (.exit 1))
 (.seq (.block 2 (.seq (.reg [⟨.t 41, .p (.ixsl 2), [.l 37, .l 39], none, 0, 0⟩, ⟨.t 42, .r (.load true 2), [.t 41], none, 0, 0⟩, ⟨.l 8, .a (.alloc [(.int .i64 0), (.int .i64 0)]), [], none, 0, 0⟩, ⟨.no, .e (.store 2), [.l 8, .t 42], none, 0, 0⟩])
 (.seq (.regD [⟨.t 43, .p (.mv), [.l 0], none, 0, 0⟩, ⟨.t 44, .p (.nilc), [.t 43], none, 0, 0⟩, ⟨.t 45, .p (.fa 311), [.t 44], none, 0, 0⟩, ⟨.t 46, .p (.fa 0), [.t 45], none, 0, 0⟩, ⟨.t 47, .r (.load false 1), [.t 46], none, 0, 0⟩, ⟨.t 48, .p (.nilc), [.t 47], none, 0, 0⟩, ⟨.t 49, .p (.fa 1), [.t 48], none, 0, 0⟩, ⟨.t 50, .p (.fa 2), [.t 49], none, 0, 0⟩, ⟨.t 51, .r (.load false 1), [.t 50], none, 0, 0⟩, ⟨.t 52, .p (.fa 0), [.l 8], none, 0, 0⟩, ⟨.t 53, .r (.load false 1), [.t 52], none, 0, 0⟩, ⟨.t 54, .p (.ixsl 9), [.t 51, .t 53], none, 0, 0⟩, ⟨.t 55, .r (.load true 9), [.t 54], none, 0, 0⟩, ⟨.t 56, .r (.load true 9), [.l 6], none, 0, 0⟩, ⟨.t 57, .call 149, [.t 55, .t 56], none, 0, 1⟩, ⟨.l 58, .p (.bin .eql), [.t 57, .c (.int .i64 0)], none, 1, 1⟩])
 (.cond (.l 58) (.reg [⟨.t 59, .p (.fa 1), [.l 8], none, 0, 0⟩, ⟨.t 60, .r (.load false 1), [.t 59], none, 0, 0⟩, ⟨.l 5, .p (.mv), [.t 60], none, 0, 0⟩])
 .skip))))
 (.reg [⟨.t 61, .p (.bin .add), [.l 39, .c (.int .i64 1)], none, 0, 0⟩, ⟨.l 39, .p (.mv), [.t 61], none, 0, 0⟩]))))))))
 .skip))))
 (.reg [⟨.t 62, .p (.mv), [.l 0], none, 0, 0⟩, ⟨.t 63, .p (.mv), [.l 5], none, 0, 0⟩, ⟨.t 64, .p (.nilc), [.t 62], none, 0, 0⟩, ⟨.t 65, .p (.fa 311), [.t 64], none, 0, 0⟩, ⟨.t 66, .p (.fa 1), [.t 65], none, 0, 0⟩, ⟨.no, .e (.store 1), [.t 66, .t 63], none, 0, 0⟩])))),
 []⟩
theorem cf82_ok : compF TP Tryz.f82 = some cf82 := by kernel_rfl
def cf83 : CF := ⟨2, (.seq (.regD [⟨.t 8, .p (.mv), [.l 0], none, 0, 1⟩, ⟨.t 9, .p (.mv), [.l 1], none, 0, 1⟩, ⟨.t 10, .p (.nilc), [.t 9], none, 0, 1⟩, ⟨.t 11, .p (.fa 7), [.t 10], none, 0, 1⟩, ⟨.t 12, .r (.load false 1), [.t 11], none, 0, 1⟩, ⟨.t 13, .p (.mv), [.l 0], none, 0, 0⟩, ⟨.t 14, .p (.mv), [.l 1], none, 0, 0⟩, ⟨.t 15, .p (.nilc), [.t 14], none, 0, 0⟩, ⟨.t 16, .p (.fa 3), [.t 15], none, 0, 0⟩, ⟨.t 17, .r (.load false 1), [.t 16], none, 0, 0⟩, ⟨.l 4, .a (.alloc [(.int .i64 0), (.int .i64 0), (.int .i64 0), (.str 0 0), (.str 0 0), (.int .i64 0), .nils, (.str 0 0), (.int .i64 0)]), [], none, 0, 2⟩, ⟨.l 5, .a (.alloc [(.str 0 0), (.int .i64 0), (.int .i64 0), (.int .i64 0), (.str 0 0), (.str 0 0), (.int .i64 0), .nils, (.str 0 0), (.int .i64 0)]), [], none, 0, 2⟩, ⟨.t 18, .call 151, [.t 13, .t 17], none, 0, 1⟩, ⟨.t 19, .call 150, [.t 8, .t 12, .t 18], none, 1, 2⟩, ⟨.t 7, .p (.mv), [.t 19], none, 2, 2⟩, ⟨.t 20, .p (.ext 0), [.t 7], none, 2, 2⟩, ⟨.t 21, .p (.ext 1), [.t 7], none, 2, 3⟩, ⟨.no, .e (.store 9), [.l 4, .t 20], none, 2, 3⟩, ⟨.no, .e (.store 10), [.l 5, .t 21], none, 3, 4⟩])
 (.seq (.reg [⟨.t 22, .p (.mv), [.l 0], none, 0, 0⟩, ⟨.t 23, .p (.mv), [.l 1], none, 0, 0⟩, ⟨.t 24, .p (.nilc), [.t 23], none, 0, 0⟩, ⟨.t 25, .p (.fa 6), [.t 24], none, 0, 0⟩, ⟨.t 26, .r (.load false 1), [.t 25], none, 0, 0⟩, ⟨.t 27, .call 141, [.t 22, .t 26], none, 0, 0⟩])
 (.block 0 (.seq (.reg [⟨.t 35, .p (.fa 0), [.l 5], none, 0, 0⟩, ⟨.t 36, .r (.load false 1), [.t 35], none, 0, 0⟩, ⟨.t 37, .p (.bin .eql), [.t 36, .c (.str 0 0)], none, 0, 0⟩, ⟨.l 34, .p (.mv), [.t 37], none, 0, 0⟩])
 (.cond (.l 34) (.seq (.reg [⟨.t 38, .p (.mv), [.l 0], none, 0, 0⟩, ⟨.t 39, .r (.load true 9), [.l 4], none, 0, 0⟩, ⟨.t 40, .call 51, [.t 38, .t 39], none, 0, 0⟩, ⟨.l 6, .p (.mv), [.t 40], none, 0, 0⟩])
 (.reg [⟨.t 41, .p (.mv), [.l 0], none, 0, 0⟩, ⟨.t 42, .p (.mv), [.l 1], none, 0, 0⟩, ⟨.t 43, .p (.nilc), [.t 42], none, 0, 0⟩, ⟨.t 44, .p (.fa 1), [.t 43], none, 0, 0⟩, ⟨.t 45, .r (.load true 2), [.t 44], none, 0, 0⟩, ⟨.t 46, .p (.mv), [.l 6], none, 0, 0⟩, ⟨.t 47, .call 138, [.t 41, .t 45, .t 46], none, 0, 0⟩]))
 (.seq (.reg [⟨.t 49, .p (.mv), [.l 1], none, 0, 0⟩, ⟨.t 50, .p (.nilc), [.t 49], none, 0, 0⟩, ⟨.t 51, .p (.fa 0), [.t 50], none, 0, 0⟩, ⟨.t 52, .r (.load false 1), [.t 51], none, 0, 0⟩, ⟨.t 53, .p (.bin .eql), [.t 52, .c (.int .i64 13)], none, 0, 0⟩, ⟨.l 48, .p (.mv), [.t 53], none, 0, 0⟩])
 (.cond (.l 48) (.reg [⟨.t 54, .p (.mv), [.l 0], none, 0, 0⟩, ⟨.t 55, .p (.mv), [.l 1], none, 0, 0⟩, ⟨.t 56, .p (.nilc), [.t 55], none, 0, 0⟩, ⟨.t 57, .p (.fa 4), [.t 56], none, 0, 0⟩, ⟨.t 58, .r (.load false 1), [.t 57], none, 0, 0⟩, ⟨.t 59, .p (.nilc), [.t 54], none, 0, 0⟩, ⟨.t 60, .p (.fa 311), [.t 59], none, 0, 0⟩, ⟨.t 61, .p (.fa 1), [.t 60], none, 0, 0⟩, ⟨.no, .e (.store 1), [.t 61, .t 58], none, 0, 0⟩])
 (.reg [⟨.t 28, .p (.mv), [.l 0], none, 0, 0⟩, ⟨.t 29, .p (.fa 0), [.l 5], none, 0, 0⟩, ⟨.t 30, .r (.load false 1), [.t 29], none, 0, 0⟩, ⟨.t 31, .p (.fa 1), [.l 5], none, 0, 0⟩, ⟨.t 32, .r (.load true 9), [.t 31], none, 0, 0⟩, ⟨.t 33, .call 54, [.t 28, .t 30, .t 32], none, 0, 0⟩])))))))),
 []⟩
theorem cf83_ok : compF TP Tryz.f83 = some cf83 := by kernel_rfl
end
end Ev
end Go.Proofs.YtbfkbabolhhbaaaGreatDoor
