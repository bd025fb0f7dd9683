/-
  The text server is parsed.

  The module has no flaws.
-/
import Derived.Test.YtchmfcjfdhokoaaGreatDoorEvMdV
import Derived.Test.YtchmfcjfdhokoaaGreatDoorEvScanV
import Derived.Test.YtchmfcjfdhokoaaGreatDoorEvArg
namespace Go.Proofs.YtchmfcjfdhokoaaGreatDoor
namespace Ev
noncomputable section
def pmV : List (Nat × Prim) := (31, locP (lookC rowsV)) :: (14, scanP 1381 txV 486 tkV) :: (12, argP [mdV] (.v (.int .i64 (.ofNat 0)))) :: prims2
def qmV : List (Nat × Prim) := (10, run10 (callS pmV 100)) :: pmV
end
theorem pmV_ok : PrimsOk pmV := .cons rfl claPV <| .cons rfl (scanP_ok (callS_ok prV_ok 100) scanV (by kernel_rfl)) <| .cons rfl (argP_ok (callS_ok prims2_ok 200) chkV) <| prims2_ok
theorem qmV_ok : PrimsOk qmV := .cons rfl (run10_ok (callS_ok pmV_ok 100)) <| pmV_ok
theorem modV : runB (callS qmV 100) 8 [.str 1381 txV] (.tup [mdV, .v (.int .i64 (.ofNat 0)), .v (.int .i64 (.ofNat 0))]) = true := by kernel_rfl
end Ev
end Go.Proofs.YtchmfcjfdhokoaaGreatDoor
namespace Go.Proofs.YtchmfcjfdhokoaaGreatDoor
namespace Ev
noncomputable def lpV : List (Nat × Prim) := (12, argP [mdV] (.v (.int .i64 (.ofNat 0)))) :: prims2
theorem lpV_ok : PrimsOk lpV := .cons rfl (argP_ok (callS_ok prims2_ok 200) chkV) <| prims2_ok
theorem clnV : runE (callS lpV 200) H0 9 [mdV] (.v (.bool true)) = true := by kernel_rfl
end Ev
end Go.Proofs.YtchmfcjfdhokoaaGreatDoor
