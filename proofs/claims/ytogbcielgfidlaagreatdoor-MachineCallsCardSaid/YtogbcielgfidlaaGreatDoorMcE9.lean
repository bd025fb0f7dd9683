/-
  Rounds, checked one by one.
-/
import Derived.Test.YtogbcielgfidlaaGreatDoorMcS1
namespace Go.Proofs.YtogbcielgfidlaaGreatDoor
set_option linter.unusedVariables false
set_option linter.unusedSimpArgs false
set_option linter.unusedSectionVars false
namespace Ev
noncomputable section
set_option maxRecDepth 100000 in
theorem down_390 : allN downB 5 390 = true := by kernel_rfl
set_option maxRecDepth 100000 in
theorem down_395 : allN downB 5 395 = true := by kernel_rfl
set_option maxRecDepth 100000 in
theorem turn_1 : allN turnB 10 1 = true := by kernel_rfl
set_option maxRecDepth 100000 in
theorem turn_11 : allN turnB 10 11 = true := by kernel_rfl
set_option maxRecDepth 100000 in
theorem turn_21 : allN turnB 10 21 = true := by kernel_rfl
set_option maxRecDepth 100000 in
theorem turn_31 : allN turnB 10 31 = true := by kernel_rfl
set_option maxRecDepth 100000 in
theorem turn_41 : allN turnB 10 41 = true := by kernel_rfl
set_option maxRecDepth 100000 in
theorem turn_51 : allN turnB 10 51 = true := by kernel_rfl
set_option maxRecDepth 100000 in
theorem turn_61 : allN turnB 10 61 = true := by kernel_rfl
set_option maxRecDepth 100000 in
theorem turn_71 : allN turnB 10 71 = true := by kernel_rfl
set_option maxRecDepth 100000 in
theorem turn_81 : allN turnB 10 81 = true := by kernel_rfl
set_option maxRecDepth 100000 in
theorem turn_91 : allN turnB 10 91 = true := by kernel_rfl
end
end Ev
end Go.Proofs.YtogbcielgfidlaaGreatDoor
