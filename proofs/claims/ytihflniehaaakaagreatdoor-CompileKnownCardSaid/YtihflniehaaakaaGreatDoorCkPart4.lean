/-
  The examples of the document, run in parts.
-/
import Derived.Test.YtihflniehaaakaaGreatDoorCkDrop
namespace Go.Proofs.YtihflniehaaakaaGreatDoor
set_option linter.unusedVariables false
set_option linter.unusedSimpArgs false
namespace Ev
noncomputable def partB11 : Bool := leftR [] 0 0 ps11 lb11 4715 fl11 (pre (callS prC 300) 1000000 1 (rest 10 cf3.code) ⟨fl10, []⟩ (litH lb10 4137))
set_option maxRecDepth 100000 in
theorem part11 : partB11 = true := by kernel_rfl
end Ev
end Go.Proofs.YtihflniehaaakaaGreatDoor
namespace Go.Proofs.YtihflniehaaakaaGreatDoor
set_option linter.unusedVariables false
set_option linter.unusedSimpArgs false
namespace Ev
noncomputable def partB16 : Bool := leftR [] 0 0 ps16 lb16 4990 fl16 (pre (callS prC 300) 1000000 5 (rest 11 cf3.code) ⟨fl11, []⟩ (litH lb11 4715))
set_option maxRecDepth 100000 in
theorem part16 : partB16 = true := by kernel_rfl
end Ev
end Go.Proofs.YtihflniehaaakaaGreatDoor
