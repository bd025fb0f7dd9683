/-
  The loop of Run.
-/
import Derived.Test.YtihflniehaaakaaGreatDoorCkDrop
namespace Go.Proofs.YtihflniehaaakaaGreatDoor
set_option linter.unusedVariables false
set_option linter.unusedSimpArgs false
namespace Ev
noncomputable def lpB0 : Bool := Option.rec (motive := fun _ => Bool) false (fun r => leftR keepS 1 999 psI lbS nxS flS (iterX (callS prC 300) 1000000 loopC 5 r.1 r.2)) head0
set_option maxRecDepth 100000 in
theorem lp0 : lpB0 = true := by kernel_rfl
end Ev
end Go.Proofs.YtihflniehaaakaaGreatDoor
