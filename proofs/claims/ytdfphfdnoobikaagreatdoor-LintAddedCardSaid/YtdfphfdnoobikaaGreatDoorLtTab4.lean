/-
  Two functions more of the program,compiled.
-/
import Derived.Test.YtdfphfdnoobikaaGreatDoorLtTab1
namespace Go.Proofs.YtdfphfdnoobikaaGreatDoor
namespace Ev
set_option maxHeartbeats 0
set_option maxRecDepth 100000
noncomputable section
def q33:{c // bQ TP Tryz.f33=some c}:=mkQ
def q34:{c // bQ TP Tryz.f34=some c}:=mkQ
end
end Ev
end Go.Proofs.YtdfphfdnoobikaaGreatDoor
