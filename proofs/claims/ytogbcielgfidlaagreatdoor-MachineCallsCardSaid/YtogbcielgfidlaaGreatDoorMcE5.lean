/-
  Rounds, checked one by one.
-/
import Derived.Test.YtogbcielgfidlaaGreatDoorMcS1
namespace Go.Proofs.YtogbcielgfidlaaGreatDoor
set_option linter.unusedVariables false
set_option linter.unusedSimpArgs false
set_option linter.unusedSectionVars false
namespace Ev
noncomputable section
set_option maxRecDepth 100000 in
theorem down_260 : allN downB 5 260 = true := by kernel_rfl
set_option maxRecDepth 100000 in
theorem down_265 : allN downB 5 265 = true := by kernel_rfl
set_option maxRecDepth 100000 in
theorem down_270 : allN downB 5 270 = true := by kernel_rfl
set_option maxRecDepth 100000 in
theorem down_275 : allN downB 5 275 = true := by kernel_rfl
set_option maxRecDepth 100000 in
theorem down_280 : allN downB 5 280 = true := by kernel_rfl
set_option maxRecDepth 100000 in
theorem down_285 : allN downB 5 285 = true := by kernel_rfl
set_option maxRecDepth 100000 in
theorem down_290 : allN downB 5 290 = true := by kernel_rfl
end
end Ev
end Go.Proofs.YtogbcielgfidlaaGreatDoor
