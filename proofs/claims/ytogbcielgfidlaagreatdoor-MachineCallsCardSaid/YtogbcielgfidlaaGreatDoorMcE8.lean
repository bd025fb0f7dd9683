/-
  Rounds, checked one by one.
-/
import Derived.Test.YtogbcielgfidlaaGreatDoorMcS1
namespace Go.Proofs.YtogbcielgfidlaaGreatDoor
set_option linter.unusedVariables false
set_option linter.unusedSimpArgs false
set_option linter.unusedSectionVars false
namespace Ev
noncomputable section
set_option maxRecDepth 100000 in
theorem down_360 : allN downB 5 360 = true := by kernel_rfl
set_option maxRecDepth 100000 in
theorem down_365 : allN downB 5 365 = true := by kernel_rfl
set_option maxRecDepth 100000 in
theorem down_370 : allN downB 5 370 = true := by kernel_rfl
set_option maxRecDepth 100000 in
theorem down_375 : allN downB 5 375 = true := by kernel_rfl
set_option maxRecDepth 100000 in
theorem down_380 : allN downB 5 380 = true := by kernel_rfl
set_option maxRecDepth 100000 in
theorem down_385 : allN downB 5 385 = true := by kernel_rfl
end
end Ev
end Go.Proofs.YtogbcielgfidlaaGreatDoor
