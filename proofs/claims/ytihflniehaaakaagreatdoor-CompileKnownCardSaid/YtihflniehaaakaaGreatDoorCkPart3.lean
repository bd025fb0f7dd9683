/-
  The examples of the document, run in parts.
-/
import Derived.Test.YtihflniehaaakaaGreatDoorCkDrop
namespace Go.Proofs.YtihflniehaaakaaGreatDoor
set_option linter.unusedVariables false
set_option linter.unusedSimpArgs false
namespace Ev
noncomputable def partB10 : Bool := leftR [] 0 0 ps10 lb10 4137 fl10 (pre (callS prC 300) 1000000 1 (rest 9 cf3.code) ⟨fl9, []⟩ (litH lb9 1858))
set_option maxRecDepth 100000 in
theorem part10 : partB10 = true := by kernel_rfl
end Ev
end Go.Proofs.YtihflniehaaakaaGreatDoor
