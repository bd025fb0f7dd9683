/-
  The loop of Run.
-/
import Derived.Test.YtihflniehaaakaaGreatDoorCkDrop
namespace Go.Proofs.YtihflniehaaakaaGreatDoor
set_option linter.unusedVariables false
set_option linter.unusedSimpArgs false
namespace Ev
noncomputable def lpB1 : Bool := leftR keepS 2 0 psR lbS nxS flS (iterX (callS prC 300) 1000000 loopC 5 ⟨flS, []⟩ (litH lbS nxS))
set_option maxRecDepth 100000 in
theorem lp1 : lpB1 = true := by kernel_rfl
end Ev
end Go.Proofs.YtihflniehaaakaaGreatDoor
namespace Go.Proofs.YtihflniehaaakaaGreatDoor
set_option linter.unusedVariables false
set_option linter.unusedSimpArgs false
namespace Ev
noncomputable def lpB2 : Bool := leftR keepS 3 1 psR lbZ nxS flS (iterX (callS prC 300) 1000000 loopC 5 ⟨flS, []⟩ (litH lbS nxS))
set_option maxRecDepth 100000 in
theorem lp2 : lpB2 = true := by kernel_rfl
end Ev
end Go.Proofs.YtihflniehaaakaaGreatDoor
