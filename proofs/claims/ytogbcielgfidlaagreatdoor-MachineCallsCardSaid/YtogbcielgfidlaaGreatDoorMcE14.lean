/-
  Rounds, checked one by one.
-/
import Derived.Test.YtogbcielgfidlaaGreatDoorMcS1
namespace Go.Proofs.YtogbcielgfidlaaGreatDoor
set_option linter.unusedVariables false
set_option linter.unusedSimpArgs false
set_option linter.unusedSectionVars false
namespace Ev
noncomputable section
set_option maxRecDepth 100000 in
theorem turn_346 : allN turnB 5 346 = true := by kernel_rfl
set_option maxRecDepth 100000 in
theorem turn_351 : allN turnB 5 351 = true := by kernel_rfl
set_option maxRecDepth 100000 in
theorem turn_356 : allN turnB 5 356 = true := by kernel_rfl
set_option maxRecDepth 100000 in
theorem turn_361 : allN turnB 5 361 = true := by kernel_rfl
set_option maxRecDepth 100000 in
theorem turn_366 : allN turnB 5 366 = true := by kernel_rfl
set_option maxRecDepth 100000 in
theorem turn_371 : allN turnB 5 371 = true := by kernel_rfl
set_option maxRecDepth 100000 in
theorem turn_376 : allN turnB 5 376 = true := by kernel_rfl
set_option maxRecDepth 100000 in
theorem turn_381 : allN turnB 5 381 = true := by kernel_rfl
end
end Ev
end Go.Proofs.YtogbcielgfidlaaGreatDoor
