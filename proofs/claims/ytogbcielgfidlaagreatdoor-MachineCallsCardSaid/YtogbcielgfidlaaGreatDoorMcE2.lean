/-
  Rounds, checked one by one.
-/
import Derived.Test.YtogbcielgfidlaaGreatDoorMcS1
namespace Go.Proofs.YtogbcielgfidlaaGreatDoor
set_option linter.unusedVariables false
set_option linter.unusedSimpArgs false
set_option linter.unusedSectionVars false
namespace Ev
noncomputable section
set_option maxRecDepth 100000 in
theorem down_125 : allN downB 5 125 = true := by kernel_rfl
set_option maxRecDepth 100000 in
theorem down_130 : allN downB 5 130 = true := by kernel_rfl
set_option maxRecDepth 100000 in
theorem down_135 : allN downB 5 135 = true := by kernel_rfl
set_option maxRecDepth 100000 in
theorem down_140 : allN downB 5 140 = true := by kernel_rfl
set_option maxRecDepth 100000 in
theorem down_145 : allN downB 5 145 = true := by kernel_rfl
set_option maxRecDepth 100000 in
theorem down_150 : allN downB 5 150 = true := by kernel_rfl
set_option maxRecDepth 100000 in
theorem down_155 : allN downB 5 155 = true := by kernel_rfl
set_option maxRecDepth 100000 in
theorem down_160 : allN downB 5 160 = true := by kernel_rfl
set_option maxRecDepth 100000 in
theorem down_165 : allN downB 5 165 = true := by kernel_rfl
set_option maxRecDepth 100000 in
theorem down_170 : allN downB 5 170 = true := by kernel_rfl
end
end Ev
end Go.Proofs.YtogbcielgfidlaaGreatDoor
