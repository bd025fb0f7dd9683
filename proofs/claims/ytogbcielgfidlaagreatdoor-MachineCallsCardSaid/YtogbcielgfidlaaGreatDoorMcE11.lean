/-
  Rounds, checked one by one.
-/
import Derived.Test.YtogbcielgfidlaaGreatDoorMcS1
namespace Go.Proofs.YtogbcielgfidlaaGreatDoor
set_option linter.unusedVariables false
set_option linter.unusedSimpArgs false
set_option linter.unusedSectionVars false
namespace Ev
noncomputable section
set_option maxRecDepth 100000 in
theorem turn_181 : allN turnB 10 181 = true := by kernel_rfl
set_option maxRecDepth 100000 in
theorem turn_191 : allN turnB 10 191 = true := by kernel_rfl
set_option maxRecDepth 100000 in
theorem turn_201 : allN turnB 5 201 = true := by kernel_rfl
set_option maxRecDepth 100000 in
theorem turn_206 : allN turnB 5 206 = true := by kernel_rfl
set_option maxRecDepth 100000 in
theorem turn_211 : allN turnB 5 211 = true := by kernel_rfl
set_option maxRecDepth 100000 in
theorem turn_216 : allN turnB 5 216 = true := by kernel_rfl
set_option maxRecDepth 100000 in
theorem turn_221 : allN turnB 5 221 = true := by kernel_rfl
set_option maxRecDepth 100000 in
theorem turn_226 : allN turnB 5 226 = true := by kernel_rfl
set_option maxRecDepth 100000 in
theorem turn_231 : allN turnB 5 231 = true := by kernel_rfl
set_option maxRecDepth 100000 in
theorem turn_236 : allN turnB 5 236 = true := by kernel_rfl
set_option maxRecDepth 100000 in
theorem turn_241 : allN turnB 5 241 = true := by kernel_rfl
end
end Ev
end Go.Proofs.YtogbcielgfidlaaGreatDoor
