/-
  Rounds, checked one by one.
-/
import Derived.Test.YtogbcielgfidlaaGreatDoorMcS1
namespace Go.Proofs.YtogbcielgfidlaaGreatDoor
set_option linter.unusedVariables false
set_option linter.unusedSimpArgs false
set_option linter.unusedSectionVars false
namespace Ev
noncomputable section
set_option maxRecDepth 100000 in
theorem turn_101 : allN turnB 10 101 = true := by kernel_rfl
set_option maxRecDepth 100000 in
theorem turn_111 : allN turnB 10 111 = true := by kernel_rfl
set_option maxRecDepth 100000 in
theorem turn_121 : allN turnB 10 121 = true := by kernel_rfl
set_option maxRecDepth 100000 in
theorem turn_131 : allN turnB 10 131 = true := by kernel_rfl
set_option maxRecDepth 100000 in
theorem turn_141 : allN turnB 10 141 = true := by kernel_rfl
set_option maxRecDepth 100000 in
theorem turn_151 : allN turnB 10 151 = true := by kernel_rfl
set_option maxRecDepth 100000 in
theorem turn_161 : allN turnB 10 161 = true := by kernel_rfl
set_option maxRecDepth 100000 in
theorem turn_171 : allN turnB 10 171 = true := by kernel_rfl
end
end Ev
end Go.Proofs.YtogbcielgfidlaaGreatDoor
