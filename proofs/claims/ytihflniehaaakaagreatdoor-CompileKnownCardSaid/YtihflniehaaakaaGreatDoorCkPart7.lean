/-
  The examples of the document, run in parts.
-/
import Derived.Test.YtihflniehaaakaaGreatDoorCkFin
namespace Go.Proofs.YtihflniehaaakaaGreatDoor
set_option linter.unusedVariables false
set_option linter.unusedSimpArgs false
namespace Ev
noncomputable def partB19 : Bool := leftR [] 0 0 ps19 lb19 9525 fl19 (pre (callS prC 300) 1000000 1 (rest 18 cf3.code) ⟨fl18, []⟩ (litH lb18 8640))
set_option maxRecDepth 100000 in
theorem part19 : partB19 = true := by kernel_rfl
end Ev
end Go.Proofs.YtihflniehaaakaaGreatDoor
