/-
  The tokens of the text supervisor.
-/
import Derived.Test.YtchmfcjfdhokoaaGreatDoorEvTkU
import Derived.Test.YtchmfcjfdhokoaaGreatDoorEvLit
import Derived.KernelRfl
namespace Go.Proofs.YtchmfcjfdhokoaaGreatDoor
namespace Ev
noncomputable section
def prU : List (Nat × Prim) := (40, eagerP 4 (locP (lookS 3435 txU 84 ptU))) :: (41, locP (lookT 3435 txU ptU)) :: prims2
end
theorem prU_ok : PrimsOk prU := .cons rfl (eager_ok skipPU) <| .cons rfl tokPU <| prims2_ok
theorem scanU : runE (callS prU 100) H0 14 [.v (.str 3435 txU)] (toksD 1142 tkU) = true := by kernel_rfl
end Ev
end Go.Proofs.YtchmfcjfdhokoaaGreatDoor
