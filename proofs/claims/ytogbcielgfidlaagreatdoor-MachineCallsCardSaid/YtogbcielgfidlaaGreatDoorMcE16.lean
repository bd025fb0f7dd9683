/-
  Rounds, checked one by one.
-/
import Derived.Test.YtogbcielgfidlaaGreatDoorMcS1
namespace Go.Proofs.YtogbcielgfidlaaGreatDoor
set_option linter.unusedVariables false
set_option linter.unusedSimpArgs false
set_option linter.unusedSectionVars false
namespace Ev
noncomputable section
set_option maxRecDepth 100000 in
theorem up_151 : allN upB 10 151 = true := by kernel_rfl
set_option maxRecDepth 100000 in
theorem up_161 : allN upB 10 161 = true := by kernel_rfl
set_option maxRecDepth 100000 in
theorem up_171 : allN upB 10 171 = true := by kernel_rfl
set_option maxRecDepth 100000 in
theorem up_181 : allN upB 10 181 = true := by kernel_rfl
set_option maxRecDepth 100000 in
theorem up_191 : allN upB 10 191 = true := by kernel_rfl
set_option maxRecDepth 100000 in
theorem up_201 : allN upB 10 201 = true := by kernel_rfl
set_option maxRecDepth 100000 in
theorem up_211 : allN upB 10 211 = true := by kernel_rfl
set_option maxRecDepth 100000 in
theorem up_221 : allN upB 10 221 = true := by kernel_rfl
set_option maxRecDepth 100000 in
theorem up_231 : allN upB 10 231 = true := by kernel_rfl
set_option maxRecDepth 100000 in
theorem up_241 : allN upB 10 241 = true := by kernel_rfl
set_option maxRecDepth 100000 in
theorem up_251 : allN upB 10 251 = true := by kernel_rfl
set_option maxRecDepth 100000 in
theorem up_261 : allN upB 10 261 = true := by kernel_rfl
end
end Ev
end Go.Proofs.YtogbcielgfidlaaGreatDoor
