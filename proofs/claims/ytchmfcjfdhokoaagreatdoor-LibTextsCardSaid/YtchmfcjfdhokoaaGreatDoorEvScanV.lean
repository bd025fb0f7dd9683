/-
  The tokens of the text server.
-/
import Derived.Test.YtchmfcjfdhokoaaGreatDoorEvTkV
import Derived.Test.YtchmfcjfdhokoaaGreatDoorEvLit
import Derived.KernelRfl
namespace Go.Proofs.YtchmfcjfdhokoaaGreatDoor
namespace Ev
noncomputable section
def prV : List (Nat × Prim) := (40, eagerP 4 (locP (lookS 1381 txV 20 ptV))) :: (41, locP (lookT 1381 txV ptV)) :: prims2
end
theorem prV_ok : PrimsOk prV := .cons rfl (eager_ok skipPV) <| .cons rfl tokPV <| prims2_ok
theorem scanV : runE (callS prV 100) H0 14 [.v (.str 1381 txV)] (toksD 486 tkV) = true := by kernel_rfl
end Ev
end Go.Proofs.YtchmfcjfdhokoaaGreatDoor
