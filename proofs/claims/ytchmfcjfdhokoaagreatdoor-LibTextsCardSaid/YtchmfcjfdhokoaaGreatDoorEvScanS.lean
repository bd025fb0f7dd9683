/-
  The tokens of the text statem.
-/
import Derived.Test.YtchmfcjfdhokoaaGreatDoorEvTkS
import Derived.Test.YtchmfcjfdhokoaaGreatDoorEvLit
import Derived.KernelRfl
namespace Go.Proofs.YtchmfcjfdhokoaaGreatDoor
namespace Ev
noncomputable section
def prS : List (Nat × Prim) := (40, eagerP 4 (locP (lookS 1430 txS 27 ptS))) :: (41, locP (lookT 1430 txS ptS)) :: prims2
end
theorem prS_ok : PrimsOk prS := .cons rfl (eager_ok skipPS) <| .cons rfl tokPS <| prims2_ok
theorem scanS : runE (callS prS 100) H0 14 [.v (.str 1430 txS)] (toksD 620 tkS) = true := by kernel_rfl
end Ev
end Go.Proofs.YtchmfcjfdhokoaaGreatDoor
