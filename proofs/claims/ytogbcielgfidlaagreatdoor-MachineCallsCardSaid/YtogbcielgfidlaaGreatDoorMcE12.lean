/-
  Rounds, checked one by one.
-/
import Derived.Test.YtogbcielgfidlaaGreatDoorMcS1
namespace Go.Proofs.YtogbcielgfidlaaGreatDoor
set_option linter.unusedVariables false
set_option linter.unusedSimpArgs false
set_option linter.unusedSectionVars false
namespace Ev
noncomputable section
set_option maxRecDepth 100000 in
theorem turn_246 : allN turnB 5 246 = true := by kernel_rfl
set_option maxRecDepth 100000 in
theorem turn_251 : allN turnB 5 251 = true := by kernel_rfl
set_option maxRecDepth 100000 in
theorem turn_256 : allN turnB 5 256 = true := by kernel_rfl
set_option maxRecDepth 100000 in
theorem turn_261 : allN turnB 5 261 = true := by kernel_rfl
set_option maxRecDepth 100000 in
theorem turn_266 : allN turnB 5 266 = true := by kernel_rfl
set_option maxRecDepth 100000 in
theorem turn_271 : allN turnB 5 271 = true := by kernel_rfl
set_option maxRecDepth 100000 in
theorem turn_276 : allN turnB 5 276 = true := by kernel_rfl
set_option maxRecDepth 100000 in
theorem turn_281 : allN turnB 5 281 = true := by kernel_rfl
set_option maxRecDepth 100000 in
theorem turn_286 : allN turnB 5 286 = true := by kernel_rfl
set_option maxRecDepth 100000 in
theorem turn_291 : allN turnB 5 291 = true := by kernel_rfl
set_option maxRecDepth 100000 in
theorem turn_296 : allN turnB 5 296 = true := by kernel_rfl
end
end Ev
end Go.Proofs.YtogbcielgfidlaaGreatDoor
