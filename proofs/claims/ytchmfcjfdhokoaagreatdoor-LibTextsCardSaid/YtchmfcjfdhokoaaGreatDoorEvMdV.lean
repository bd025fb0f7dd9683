/-
  The module of the text server, and that it is valid.
-/
import Derived.Test.YtchmfcjfdhokoaaGreatDoorEvClaV
import Derived.Test.YtchmfcjfdhokoaaGreatDoorEvArg
namespace Go.Proofs.YtchmfcjfdhokoaaGreatDoor
namespace Ev
noncomputable section
def mdV : D := .agg [.v (.str 6 125780104471923), .v (.int .i64 (.ofNat 1)), (.sl 7 2 none ([.v (.str 5 500135195763), .v (.int .i64 (.ofNat 2))] ++ [.v (.str 10 507329952066785295561843), .v (.int .i64 (.ofNat 2))] ++ [.v (.str 4 1819042147), .v (.int .i64 (.ofNat 2))] ++ [.v (.str 4 1819042147), .v (.int .i64 (.ofNat 3))] ++ [.v (.str 5 521510348146), .v (.int .i64 (.ofNat 2))] ++ [.v (.str 4 1953718627), .v (.int .i64 (.ofNat 2))] ++ [.v (.str 4 1886352499), .v (.int .i64 (.ofNat 1))])), .sl 10 3 none (.v (.str 5 500135195763) :: .v (.int .i64 (.ofNat 2)) :: s4t 1 (cV0) :: .v (.str 10 507329952066785295561843) :: .v (.int .i64 (.ofNat 2)) :: s4t 1 (cV1) :: .v (.str 4 1819042147) :: .v (.int .i64 (.ofNat 2)) :: s4t 1 (cV2) :: .v (.str 4 1819042147) :: .v (.int .i64 (.ofNat 3)) :: s4t 1 (cV3) :: .v (.str 4 1886351972) :: .v (.int .i64 (.ofNat 1)) :: s4t 1 (cV4) :: .v (.str 5 521510348146) :: .v (.int .i64 (.ofNat 2)) :: s4t 1 (cV5) :: .v (.str 4 1953718627) :: .v (.int .i64 (.ofNat 2)) :: s4t 1 (cV6) :: .v (.str 4 1886352499) :: .v (.int .i64 (.ofNat 1)) :: s4t 1 (cV7) :: .v (.str 4 1886351212) :: .v (.int .i64 (.ofNat 2)) :: s4t 1 (cV8) :: .v (.str 4 1954047342) :: .v (.int .i64 (.ofNat 3)) :: s4 4 (cV9 ++ cV10 ++ cV11 ++ cV12) :: [])]
end
theorem chkV : runE (callS prims2 200) H0 12 [mdV] (.v (.int .i64 (.ofNat 0))) = true := by kernel_rfl
end Ev
end Go.Proofs.YtchmfcjfdhokoaaGreatDoor
