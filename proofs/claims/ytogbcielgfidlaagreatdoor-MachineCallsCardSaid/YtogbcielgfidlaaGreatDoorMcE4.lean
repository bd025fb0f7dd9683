/-
  Rounds, checked one by one.
-/
import Derived.Test.YtogbcielgfidlaaGreatDoorMcS1
namespace Go.Proofs.YtogbcielgfidlaaGreatDoor
set_option linter.unusedVariables false
set_option linter.unusedSimpArgs false
set_option linter.unusedSectionVars false
namespace Ev
noncomputable section
set_option maxRecDepth 100000 in
theorem down_220 : allN downB 5 220 = true := by kernel_rfl
set_option maxRecDepth 100000 in
theorem down_225 : allN downB 5 225 = true := by kernel_rfl
set_option maxRecDepth 100000 in
theorem down_230 : allN downB 5 230 = true := by kernel_rfl
set_option maxRecDepth 100000 in
theorem down_235 : allN downB 5 235 = true := by kernel_rfl
set_option maxRecDepth 100000 in
theorem down_240 : allN downB 5 240 = true := by kernel_rfl
set_option maxRecDepth 100000 in
theorem down_245 : allN downB 5 245 = true := by kernel_rfl
set_option maxRecDepth 100000 in
theorem down_250 : allN downB 5 250 = true := by kernel_rfl
set_option maxRecDepth 100000 in
theorem down_255 : allN downB 5 255 = true := by kernel_rfl
end
end Ev
end Go.Proofs.YtogbcielgfidlaaGreatDoor
