/-
  Rounds, checked one by one.
-/
import Derived.Test.YtogbcielgfidlaaGreatDoorMcS1
namespace Go.Proofs.YtogbcielgfidlaaGreatDoor
set_option linter.unusedVariables false
set_option linter.unusedSimpArgs false
set_option linter.unusedSectionVars false
namespace Ev
noncomputable section
set_option maxRecDepth 100000 in
theorem turn_301 : allN turnB 5 301 = true := by kernel_rfl
set_option maxRecDepth 100000 in
theorem turn_306 : allN turnB 5 306 = true := by kernel_rfl
set_option maxRecDepth 100000 in
theorem turn_311 : allN turnB 5 311 = true := by kernel_rfl
set_option maxRecDepth 100000 in
theorem turn_316 : allN turnB 5 316 = true := by kernel_rfl
set_option maxRecDepth 100000 in
theorem turn_321 : allN turnB 5 321 = true := by kernel_rfl
set_option maxRecDepth 100000 in
theorem turn_326 : allN turnB 5 326 = true := by kernel_rfl
set_option maxRecDepth 100000 in
theorem turn_331 : allN turnB 5 331 = true := by kernel_rfl
set_option maxRecDepth 100000 in
theorem turn_336 : allN turnB 5 336 = true := by kernel_rfl
set_option maxRecDepth 100000 in
theorem turn_341 : allN turnB 5 341 = true := by kernel_rfl
end
end Ev
end Go.Proofs.YtogbcielgfidlaaGreatDoor
