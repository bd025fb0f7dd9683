/-
  Rounds, checked one by one.
-/
import Derived.Test.YtogbcielgfidlaaGreatDoorMcS1
namespace Go.Proofs.YtogbcielgfidlaaGreatDoor
set_option linter.unusedVariables false
set_option linter.unusedSimpArgs false
set_option linter.unusedSectionVars false
namespace Ev
noncomputable section
set_option maxRecDepth 100000 in
theorem up_271 : allN upB 10 271 = true := by kernel_rfl
set_option maxRecDepth 100000 in
theorem up_281 : allN upB 10 281 = true := by kernel_rfl
set_option maxRecDepth 100000 in
theorem up_291 : allN upB 10 291 = true := by kernel_rfl
set_option maxRecDepth 100000 in
theorem up_301 : allN upB 10 301 = true := by kernel_rfl
set_option maxRecDepth 100000 in
theorem up_311 : allN upB 10 311 = true := by kernel_rfl
set_option maxRecDepth 100000 in
theorem up_321 : allN upB 10 321 = true := by kernel_rfl
set_option maxRecDepth 100000 in
theorem up_331 : allN upB 10 331 = true := by kernel_rfl
set_option maxRecDepth 100000 in
theorem up_341 : allN upB 10 341 = true := by kernel_rfl
set_option maxRecDepth 100000 in
theorem up_351 : allN upB 10 351 = true := by kernel_rfl
end
end Ev
end Go.Proofs.YtogbcielgfidlaaGreatDoor
