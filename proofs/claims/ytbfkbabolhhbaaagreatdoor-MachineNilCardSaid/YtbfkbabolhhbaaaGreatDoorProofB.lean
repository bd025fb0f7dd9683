/-
  The row of MachineNil.
  Conditions: as the row says.
-/
import Derived.Test.YtbfkbabolhhbaaaGreatDoorProof
import Derived.Lay
namespace Go.Proofs.YtbfkbabolhhbaaaGreatDoor
open Go.ChangeShapes Go.WideShapes Go.ChangeAt Go.WideMaps Go.WideElems Go.RowKit
open Ev
set_option maxHeartbeats 1000000000 in
/-- The laid heap meets the condition. -/
theorem door_met (os : Os) (args : Array Value) : laidMetH Tryz.prog Rows.machineNilRow.laid ((World.laidAll Tryz.prog os Rows.machineNilRow.laid).forCall (fun _ _ => 0) ⟨#[], args, []⟩).memory := by
  rw [MakeChecks.laidMetH_plain _ _ _ (by kernel_rfl)]
  exact laidMet_laidAll _ (by as_aux_lemma => kernel_rfl) (by as_aux_lemma => kernel_rfl)
theorem shaped0 (os : Os) : ((World.laidAll Tryz.prog os Rows.machineNilRow.laid).forCall (fun _ _ => 0) ⟨#[], #[.agg #[.int .i64 0, .int .i64 0, .int .i64 0, .string ⟨#[]⟩, .string ⟨#[]⟩, .int .i64 0, .slice none 0 0, .string ⟨#[]⟩, .int .i64 0], .int .i64 0], []⟩).Shaped Tryz.prog := World.shaped_of_ZipB (by as_aux_lemma => kernel_rfl) (by as_aux_lemma => kernel_rfl)
end Go.Proofs.YtbfkbabolhhbaaaGreatDoor
