/-
  The text supervisor is parsed.

  The module has no flaws.
-/
import Derived.Test.YtchmfcjfdhokoaaGreatDoorEvMdU
import Derived.Test.YtchmfcjfdhokoaaGreatDoorEvScanU
import Derived.Test.YtchmfcjfdhokoaaGreatDoorEvArg
namespace Go.Proofs.YtchmfcjfdhokoaaGreatDoor
namespace Ev
noncomputable section
def pmU : List (Nat × Prim) := (31, locP (lookC rowsU)) :: (14, scanP 3435 txU 1142 tkU) :: (12, argP [mdU] (.v (.int .i64 (.ofNat 0)))) :: prims2
def qmU : List (Nat × Prim) := (10, run10 (callS pmU 100)) :: pmU
end
theorem pmU_ok : PrimsOk pmU := .cons rfl claPU <| .cons rfl (scanP_ok (callS_ok prU_ok 100) scanU (by kernel_rfl)) <| .cons rfl (argP_ok (callS_ok prims2_ok 200) chkU) <| prims2_ok
theorem qmU_ok : PrimsOk qmU := .cons rfl (run10_ok (callS_ok pmU_ok 100)) <| pmU_ok
theorem modU : runB (callS qmU 100) 8 [.str 3435 txU] (.tup [mdU, .v (.int .i64 (.ofNat 0)), .v (.int .i64 (.ofNat 0))]) = true := by kernel_rfl
end Ev
end Go.Proofs.YtchmfcjfdhokoaaGreatDoor
namespace Go.Proofs.YtchmfcjfdhokoaaGreatDoor
namespace Ev
noncomputable def lpU : List (Nat × Prim) := (12, argP [mdU] (.v (.int .i64 (.ofNat 0)))) :: prims2
theorem lpU_ok : PrimsOk lpU := .cons rfl (argP_ok (callS_ok prims2_ok 200) chkU) <| prims2_ok
theorem clnU : runE (callS lpU 200) H0 9 [mdU] (.v (.bool true)) = true := by kernel_rfl
end Ev
end Go.Proofs.YtchmfcjfdhokoaaGreatDoor
