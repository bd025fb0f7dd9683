/-
  The run up to the loop.
-/
import Derived.Test.YtogbcielgfidlaaGreatDoorMcS1
namespace Go.Proofs.YtogbcielgfidlaaGreatDoor
set_option linter.unusedVariables false
set_option linter.unusedSimpArgs false
set_option linter.unusedSectionVars false
namespace Ev
noncomputable section
set_option maxRecDepth 100000 in
theorem head_true : headB = true := by kernel_rfl
set_option maxRecDepth 100000 in
theorem start_true : startB = true := by kernel_rfl
end
end Ev
end Go.Proofs.YtogbcielgfidlaaGreatDoor
namespace Go.Proofs.YtogbcielgfidlaaGreatDoor
set_option linter.unusedVariables false
set_option linter.unusedSimpArgs false
set_option linter.unusedSectionVars false
namespace Ev
noncomputable section
set_option maxRecDepth 100000
theorem regR : lft (rest 7 cf3.code) = .reg (opR0 ++ ⟨.t 92, .call 15, [.t 91], none, 0, 0⟩ :: opR2) := by kernel_rfl
theorem seqR : rest 7 cf3.code = .seq (lft (rest 7 cf3.code)) rest8 := by kernel_rfl
theorem shapeR : rest 3 cf15.code = .seq (.block 0 (.loop loopC)) rest15 := by kernel_rfl
theorem done0 : doneB0 = true := by kernel_rfl
theorem lim_true : limE = true := by kernel_rfl
theorem done_1 : allN doneB 100 1 = true := by kernel_rfl
theorem done_101 : allN doneB 100 101 = true := by kernel_rfl
theorem done_201 : allN doneB 100 201 = true := by kernel_rfl
theorem done_301 : allN doneB 100 301 = true := by kernel_rfl
theorem spent_0 : allN spentB 100 0 = true := by kernel_rfl
theorem spent_100 : allN spentB 100 100 = true := by kernel_rfl
theorem spent_200 : allN spentB 100 200 = true := by kernel_rfl
theorem spent_300 : allN spentB 101 300 = true := by kernel_rfl
end
end Ev
end Go.Proofs.YtogbcielgfidlaaGreatDoor
