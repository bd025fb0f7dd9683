/-
  Rounds, checked one by one.
-/
import Derived.Test.YtogbcielgfidlaaGreatDoorMcS1
namespace Go.Proofs.YtogbcielgfidlaaGreatDoor
set_option linter.unusedVariables false
set_option linter.unusedSimpArgs false
set_option linter.unusedSectionVars false
namespace Ev
noncomputable section
set_option maxRecDepth 100000 in
theorem down_70 : allN downB 10 70 = true := by kernel_rfl
set_option maxRecDepth 100000 in
theorem down_80 : allN downB 10 80 = true := by kernel_rfl
set_option maxRecDepth 100000 in
theorem down_90 : allN downB 10 90 = true := by kernel_rfl
set_option maxRecDepth 100000 in
theorem down_100 : allN downB 5 100 = true := by kernel_rfl
set_option maxRecDepth 100000 in
theorem down_105 : allN downB 5 105 = true := by kernel_rfl
set_option maxRecDepth 100000 in
theorem down_110 : allN downB 5 110 = true := by kernel_rfl
set_option maxRecDepth 100000 in
theorem down_115 : allN downB 5 115 = true := by kernel_rfl
set_option maxRecDepth 100000 in
theorem down_120 : allN downB 5 120 = true := by kernel_rfl
end
end Ev
end Go.Proofs.YtogbcielgfidlaaGreatDoor
