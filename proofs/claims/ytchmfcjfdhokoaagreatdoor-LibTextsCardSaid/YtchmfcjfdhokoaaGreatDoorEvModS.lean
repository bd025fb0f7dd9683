/-
  The text statem is parsed.

  The module has no flaws.
-/
import Derived.Test.YtchmfcjfdhokoaaGreatDoorEvMdS
import Derived.Test.YtchmfcjfdhokoaaGreatDoorEvScanS
import Derived.Test.YtchmfcjfdhokoaaGreatDoorEvArg
namespace Go.Proofs.YtchmfcjfdhokoaaGreatDoor
namespace Ev
noncomputable section
def pmS : List (Nat × Prim) := (31, locP (lookC rowsS)) :: (14, scanP 1430 txS 620 tkS) :: (12, argP [mdS] (.v (.int .i64 (.ofNat 0)))) :: prims2
def qmS : List (Nat × Prim) := (10, run10 (callS pmS 100)) :: pmS
end
theorem pmS_ok : PrimsOk pmS := .cons rfl claPS <| .cons rfl (scanP_ok (callS_ok prS_ok 100) scanS (by kernel_rfl)) <| .cons rfl (argP_ok (callS_ok prims2_ok 200) chkS) <| prims2_ok
theorem qmS_ok : PrimsOk qmS := .cons rfl (run10_ok (callS_ok pmS_ok 100)) <| pmS_ok
theorem modS : runB (callS qmS 100) 8 [.str 1430 txS] (.tup [mdS, .v (.int .i64 (.ofNat 0)), .v (.int .i64 (.ofNat 0))]) = true := by kernel_rfl
end Ev
end Go.Proofs.YtchmfcjfdhokoaaGreatDoor
namespace Go.Proofs.YtchmfcjfdhokoaaGreatDoor
namespace Ev
noncomputable def lpS : List (Nat × Prim) := (12, argP [mdS] (.v (.int .i64 (.ofNat 0)))) :: prims2
theorem lpS_ok : PrimsOk lpS := .cons rfl (argP_ok (callS_ok prims2_ok 200) chkS) <| prims2_ok
theorem clnS : runE (callS lpS 200) H0 9 [mdS] (.v (.bool true)) = true := by kernel_rfl
end Ev
end Go.Proofs.YtchmfcjfdhokoaaGreatDoor
