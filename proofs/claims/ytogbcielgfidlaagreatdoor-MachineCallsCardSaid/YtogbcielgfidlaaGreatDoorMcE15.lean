/-
  Rounds, checked one by one.
-/
import Derived.Test.YtogbcielgfidlaaGreatDoorMcS1
namespace Go.Proofs.YtogbcielgfidlaaGreatDoor
set_option linter.unusedVariables false
set_option linter.unusedSimpArgs false
set_option linter.unusedSectionVars false
namespace Ev
noncomputable section
set_option maxRecDepth 100000 in
theorem turn_386 : allN turnB 5 386 = true := by kernel_rfl
set_option maxRecDepth 100000 in
theorem turn_391 : allN turnB 5 391 = true := by kernel_rfl
set_option maxRecDepth 100000 in
theorem turn_396 : allN turnB 5 396 = true := by kernel_rfl
set_option maxRecDepth 100000 in
theorem up_1 : allN upB 10 1 = true := by kernel_rfl
set_option maxRecDepth 100000 in
theorem up_11 : allN upB 10 11 = true := by kernel_rfl
set_option maxRecDepth 100000 in
theorem up_21 : allN upB 10 21 = true := by kernel_rfl
set_option maxRecDepth 100000 in
theorem up_31 : allN upB 10 31 = true := by kernel_rfl
set_option maxRecDepth 100000 in
theorem up_41 : allN upB 10 41 = true := by kernel_rfl
set_option maxRecDepth 100000 in
theorem up_51 : allN upB 10 51 = true := by kernel_rfl
set_option maxRecDepth 100000 in
theorem up_61 : allN upB 10 61 = true := by kernel_rfl
set_option maxRecDepth 100000 in
theorem up_71 : allN upB 10 71 = true := by kernel_rfl
set_option maxRecDepth 100000 in
theorem up_81 : allN upB 10 81 = true := by kernel_rfl
set_option maxRecDepth 100000 in
theorem up_91 : allN upB 10 91 = true := by kernel_rfl
set_option maxRecDepth 100000 in
theorem up_101 : allN upB 10 101 = true := by kernel_rfl
set_option maxRecDepth 100000 in
theorem up_111 : allN upB 10 111 = true := by kernel_rfl
set_option maxRecDepth 100000 in
theorem up_121 : allN upB 10 121 = true := by kernel_rfl
set_option maxRecDepth 100000 in
theorem up_131 : allN upB 10 131 = true := by kernel_rfl
set_option maxRecDepth 100000 in
theorem up_141 : allN upB 10 141 = true := by kernel_rfl
end
end Ev
end Go.Proofs.YtogbcielgfidlaaGreatDoor
