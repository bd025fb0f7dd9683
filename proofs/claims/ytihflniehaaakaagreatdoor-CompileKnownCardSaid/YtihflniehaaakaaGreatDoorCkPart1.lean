/-
  The examples of the document, run in parts.
-/
import Derived.Test.YtihflniehaaakaaGreatDoorCkDrop
namespace Go.Proofs.YtihflniehaaakaaGreatDoor
set_option linter.unusedVariables false
set_option linter.unusedSimpArgs false
namespace Ev
noncomputable def partB2 : Bool := leftR [] 0 0 ps2 lb2 1038 fl2 (pre (callS prC 300) 1000000 2 (rest 0 cf3.code) ⟨[], []⟩ H0)
set_option maxRecDepth 100000 in
theorem part2 : partB2 = true := by kernel_rfl
end Ev
end Go.Proofs.YtihflniehaaakaaGreatDoor
