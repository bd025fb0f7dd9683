/-
  The examples of the document, run in parts.
-/
import Derived.Test.YtihflniehaaakaaGreatDoorCkDrop
namespace Go.Proofs.YtihflniehaaakaaGreatDoor
set_option linter.unusedVariables false
set_option linter.unusedSimpArgs false
namespace Ev
noncomputable def partB9 : Bool := leftR [] 0 0 ps9 lb9 1858 fl9 (pre (callS prC 300) 1000000 7 (rest 2 cf3.code) ⟨fl2, []⟩ (litH lb2 1038))
set_option maxRecDepth 100000 in
theorem part9 : partB9 = true := by kernel_rfl
end Ev
end Go.Proofs.YtihflniehaaakaaGreatDoor
