/-
  The program's tie: what the row lists is what the program's text lays.
-/
import Derived.Test.YtihflniehaaakaaGreatDoorRows
import Derived.Test.YtihflniehaaakaaGreatDoorTieW
import Derived.SevenTiedAt
import Derived.ProofKit
namespace Go.Proofs.YtihflniehaaakaaGreatDoor
set_option linter.unusedVariables false
set_option linter.unusedSimpArgs false
open Go.RowKit
theorem laid_eq : Rows.compileKnownRow.laid = laidAll := by kernel_rfl
theorem myTie : Tryz.prog.laidByTextLater Rows.compileKnownRow.laid [.data, .data, .data, .listed, .data] true := by
  rw [laid_eq]
  exact tieW
theorem noUnsafe : Tryz.pinned.checked.prog.headLifts.contains "ownunsafe" = false := by kernel_rfl
theorem row_tie : Rows.compileKnownRow.laidByTextAt .later Tryz.pinned [.data, .data, .data, .listed, .data] true := OpenClaim.laidByTextAt_later rfl rfl myTie noUnsafe
end Go.Proofs.YtihflniehaaakaaGreatDoor
