/-
  The program's tie, fact by fact: what the row lists is what the program's text lays.
-/
import Derived.Test.YtgeccgjpiaiifaaGreatDoorRows
import Derived.LaidByTextLater
import Derived.SevenTiedAt
import Derived.LaidSub
import Derived.LaidOnce
import Derived.ProofKit
namespace Go.Proofs.YtgeccgjpiaiifaaGreatDoor
open Go.RowKit
set_option maxRecDepth 100000
/-- What the row lists. -/
def rowL : List (String × DataW Unit) := Rows.machineKnownRow.laid
theorem tie1 : Tryz.prog.worded (varsWordLater true) = true := by kernel_rfl
theorem tie2 : Tryz.prog.worded (varsWordLater !true) = false := by kernel_rfl
theorem tie3 : Tryz.prog.worded rootWordLater = true := by kernel_rfl
theorem tie4 : rowL.map (fun x => Tryz.prog.kindOfLater x.1) = ([LaidKind.listed, .data, .data] : List LaidKind).map some := by kernel_rfl
theorem tie5 : (Tryz.prog.funcNamed "gosem.cut.vars").isSome = true := by kernel_rfl
theorem tie6 : varsNamedLaterB Tryz.prog (varsId Tryz.prog) rowL = true := by kernel_rfl
theorem tie7 : ∀ os tape, doorLeaves Tryz.prog 74 8 257 rowL os tape = some (rowL.filter fun x => x.2.handleName?.isNone, (funcsListed rowL).map (·.2.funcsOut)) := fun _ _ => by kernel_rfl
theorem myTie : Tryz.prog.laidByTextLater rowL ([LaidKind.listed, .data, .data] : List LaidKind) true := Program.laidByTextLater_by_one 74 8 257 tie1 tie2 tie3 tie4 tie5 tie6 tie7
theorem noUnsafe : Tryz.pinned.checked.prog.headLifts.contains "ownunsafe" = false := by kernel_rfl
theorem row_tie : Rows.machineKnownRow.laidByTextAt .later Tryz.pinned [.listed, .data, .data] true := OpenClaim.laidByTextAt_later rfl rfl myTie noUnsafe
end Go.Proofs.YtgeccgjpiaiifaaGreatDoor
