/-
  The examples of the document: the last statement.
-/
import Derived.Test.YtihflniehaaakaaGreatDoorCkFin
namespace Go.Proofs.YtihflniehaaakaaGreatDoor
set_option linter.unusedVariables false
set_option linter.unusedSimpArgs false
namespace Ev
noncomputable def lastB : Bool := Option.rec (motive := fun _ => Bool) false (fun r => X.rec (motive := fun _ => Bool) false (fun _ => false) (Option.rec (motive := fun _ => Bool) false (fun v => eqV v (.bool true)) (lk r.2.1.loc 0)) r.1) (exec (callS prC 300) false 1000000 (rest 19 cf3.code) ⟨fl19, []⟩ (litH lb19 9525))
set_option maxRecDepth 100000 in
theorem last_true : lastB = true := by kernel_rfl
end Ev
end Go.Proofs.YtihflniehaaakaaGreatDoor
