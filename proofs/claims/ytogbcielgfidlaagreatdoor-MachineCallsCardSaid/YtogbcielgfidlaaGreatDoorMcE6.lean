/-
  Rounds, checked one by one.
-/
import Derived.Test.YtogbcielgfidlaaGreatDoorMcS1
namespace Go.Proofs.YtogbcielgfidlaaGreatDoor
set_option linter.unusedVariables false
set_option linter.unusedSimpArgs false
set_option linter.unusedSectionVars false
namespace Ev
noncomputable section
set_option maxRecDepth 100000 in
theorem down_295 : allN downB 5 295 = true := by kernel_rfl
set_option maxRecDepth 100000 in
theorem down_300 : allN downB 5 300 = true := by kernel_rfl
set_option maxRecDepth 100000 in
theorem down_305 : allN downB 5 305 = true := by kernel_rfl
set_option maxRecDepth 100000 in
theorem down_310 : allN downB 5 310 = true := by kernel_rfl
set_option maxRecDepth 100000 in
theorem down_315 : allN downB 5 315 = true := by kernel_rfl
set_option maxRecDepth 100000 in
theorem down_320 : allN downB 5 320 = true := by kernel_rfl
set_option maxRecDepth 100000 in
theorem down_325 : allN downB 5 325 = true := by kernel_rfl
end
end Ev
end Go.Proofs.YtogbcielgfidlaaGreatDoor
