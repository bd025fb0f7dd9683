/-
  Rounds, checked one by one.
-/
import Derived.Test.YtogbcielgfidlaaGreatDoorMcS1
namespace Go.Proofs.YtogbcielgfidlaaGreatDoor
set_option linter.unusedVariables false
set_option linter.unusedSimpArgs false
set_option linter.unusedSectionVars false
namespace Ev
noncomputable section
set_option maxRecDepth 100000 in
theorem down_175 : allN downB 5 175 = true := by kernel_rfl
set_option maxRecDepth 100000 in
theorem down_180 : allN downB 5 180 = true := by kernel_rfl
set_option maxRecDepth 100000 in
theorem down_185 : allN downB 5 185 = true := by kernel_rfl
set_option maxRecDepth 100000 in
theorem down_190 : allN downB 5 190 = true := by kernel_rfl
set_option maxRecDepth 100000 in
theorem down_195 : allN downB 5 195 = true := by kernel_rfl
set_option maxRecDepth 100000 in
theorem down_200 : allN downB 5 200 = true := by kernel_rfl
set_option maxRecDepth 100000 in
theorem down_205 : allN downB 5 205 = true := by kernel_rfl
set_option maxRecDepth 100000 in
theorem down_210 : allN downB 5 210 = true := by kernel_rfl
set_option maxRecDepth 100000 in
theorem down_215 : allN downB 5 215 = true := by kernel_rfl
end
end Ev
end Go.Proofs.YtogbcielgfidlaaGreatDoor
