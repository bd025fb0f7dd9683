/-
  The examples of the document, run in parts.
-/
import Derived.Test.YtihflniehaaakaaGreatDoorCkFin
namespace Go.Proofs.YtihflniehaaakaaGreatDoor
set_option linter.unusedVariables false
set_option linter.unusedSimpArgs false
namespace Ev
noncomputable def partB18 : Bool := leftR [] 0 0 ps18 lb18 8640 fl18 (pre (callS prC 300) 1000000 1 (rest 17 cf3.code) ⟨fl17, []⟩ (litH lb17 5905))
set_option maxRecDepth 100000 in
theorem part18 : partB18 = true := by kernel_rfl
end Ev
end Go.Proofs.YtihflniehaaakaaGreatDoor
