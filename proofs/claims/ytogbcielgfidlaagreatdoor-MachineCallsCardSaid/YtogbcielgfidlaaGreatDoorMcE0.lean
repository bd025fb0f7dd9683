/-
  Rounds, checked one by one.
-/
import Derived.Test.YtogbcielgfidlaaGreatDoorMcS1
namespace Go.Proofs.YtogbcielgfidlaaGreatDoor
set_option linter.unusedVariables false
set_option linter.unusedSimpArgs false
set_option linter.unusedSectionVars false
namespace Ev
noncomputable section
set_option maxRecDepth 100000 in
theorem down_0 : allN downB 10 0 = true := by kernel_rfl
set_option maxRecDepth 100000 in
theorem down_10 : allN downB 10 10 = true := by kernel_rfl
set_option maxRecDepth 100000 in
theorem down_20 : allN downB 10 20 = true := by kernel_rfl
set_option maxRecDepth 100000 in
theorem down_30 : allN downB 10 30 = true := by kernel_rfl
set_option maxRecDepth 100000 in
theorem down_40 : allN downB 10 40 = true := by kernel_rfl
set_option maxRecDepth 100000 in
theorem down_50 : allN downB 10 50 = true := by kernel_rfl
set_option maxRecDepth 100000 in
theorem down_60 : allN downB 10 60 = true := by kernel_rfl
end
end Ev
end Go.Proofs.YtogbcielgfidlaaGreatDoor
