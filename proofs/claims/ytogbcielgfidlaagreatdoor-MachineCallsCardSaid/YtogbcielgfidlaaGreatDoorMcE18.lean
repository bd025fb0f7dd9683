/-
  Rounds, checked one by one.
-/
import Derived.Test.YtogbcielgfidlaaGreatDoorMcS1
namespace Go.Proofs.YtogbcielgfidlaaGreatDoor
set_option linter.unusedVariables false
set_option linter.unusedSimpArgs false
set_option linter.unusedSectionVars false
namespace Ev
noncomputable section
set_option maxRecDepth 100000 in
theorem up_361 : allN upB 10 361 = true := by kernel_rfl
set_option maxRecDepth 100000 in
theorem up_371 : allN upB 10 371 = true := by kernel_rfl
set_option maxRecDepth 100000 in
theorem up_381 : allN upB 10 381 = true := by kernel_rfl
set_option maxRecDepth 100000 in
theorem up_391 : allN upB 9 391 = true := by kernel_rfl
end
end Ev
end Go.Proofs.YtogbcielgfidlaaGreatDoor
