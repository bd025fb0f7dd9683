/-
  Rounds, checked one by one.
-/
import Derived.Test.YtogbcielgfidlaaGreatDoorMcS1
namespace Go.Proofs.YtogbcielgfidlaaGreatDoor
set_option linter.unusedVariables false
set_option linter.unusedSimpArgs false
set_option linter.unusedSectionVars false
namespace Ev
noncomputable section
set_option maxRecDepth 100000 in
theorem down_330 : allN downB 5 330 = true := by kernel_rfl
set_option maxRecDepth 100000 in
theorem down_335 : allN downB 5 335 = true := by kernel_rfl
set_option maxRecDepth 100000 in
theorem down_340 : allN downB 5 340 = true := by kernel_rfl
set_option maxRecDepth 100000 in
theorem down_345 : allN downB 5 345 = true := by kernel_rfl
set_option maxRecDepth 100000 in
theorem down_350 : allN downB 5 350 = true := by kernel_rfl
set_option maxRecDepth 100000 in
theorem down_355 : allN downB 5 355 = true := by kernel_rfl
end
end Ev
end Go.Proofs.YtogbcielgfidlaaGreatDoor
